/- The reader's recursion. -/
import Derived.Test.YtcmnmceodhambaaGreatDoorRdB
set_option linter.unusedSimpArgs false
set_option linter.unusedVariables false
open Rx Go
namespace Rd
theorem Qg : noF.Ok prog := by
 intro al ol args obs out h
 cases h
theorem LV {g : Nat} (hD : (zq g).Ok prog) : ∀ x ∈ Sw g, x.2.2.Ok prog :=
 all_cons F4 (all_cons vD (all_cons vD (all_cons vD (all_cons vD (all_cons hD (all_cons Qg (all_cons F4 (all_cons hD (all_cons TK all_nil)))))))))
theorem yw {s : ByteArray} {f g : Nat} {lv a c : Int} {r : PR} (h : f <= g) (hr : iD s f lv a c = some r) : aZ s g lv a c = r := by
 unfold aZ
 rw [jP h hr]; rfl
theorem FU {s : ByteArray} {f : Nat} {lv a c : Int} {acc : List Dm} {r : PR} (hr : kJ s f lv a c acc = some r) : j4 s f lv a c acc = r := by
 unfold j4
 rw [hr]; rfl
theorem FJ {g : Nat} (hD : (zq g).Ok prog) (s : ByteArray) (lv : Int) (x : LX) : Sound (PV g) (.loop D9) (jM ((GA g).live.h.zip (Je lv)) (Qu s x)) ((Nw s g lv x).map (OutC.st (GA g).live)) := by
 refine qy mixed (ks := Sw g) (ls := [GA g]) (c := D9) (nb := 1) (N := 153) (LV hD) (fU (by kernel_rfl)) (GA g).live (fun _ : LX => Je lv) (fun x => Qu s x) (fun x => Nw s g lv x) (fun x => x.f)
  (Q := fun x => KV s g lv x.a x.c x.acc) (fun x post hp => ?_) (fun a Rn Re => by kernel_rfl) x
 obtain ⟨f, a, c, acc⟩ := x
 obtain ⟨⟨hf, hs, hc, ⟨hl1, hl2⟩, ha, hsome⟩, hp⟩ := hp
 have hp : post (.ret, [.ptr 1 0], [some (pOb s (j4 s f lv a c acc).a (j4 s f lv a c acc).c (j4 s f lv a c acc).e),
  some (.cells kF [vI .i64 4, vI .i64 0, vS noS, .nm 2]), some (.row kF 4 (j4 s f lv a c acc).d.l.length (dmL (j4 s f lv a c acc).d.l))]) := hp
 obtain ⟨R, hR⟩ := Option.isSome_iff_exists.1 hsome
 have eR := FU hR
 simp only at hf hs hc ha hR
 have b1 := vH s a
 have b2 := vO s a hs.2.2
 have hb : okS s (blk s a) := ⟨hs.1, by have := hs.2.1; omega, b2⟩
 cases f with
 | zero => simp [kJ] at hR
 | succ f =>
 have call : ¬ (blk s a < s.size /\ ay s (blk s a) = 41) -> ∃ r, iD s f (lv + 1) (blk s a) c = some r /\ (if r.e ≠ 0 then R = ⟨.mk 4 0 noS acc, r.a, r.c, r.e⟩ else kJ s f lv r.a r.c (acc ++ [r.d]) = some R) := fun h => by
  rw [kJ, if_neg h] at hR
  split at hR
  · cases hR
  · rename_i r hr
    refine ⟨r, hr, ?_⟩
    split at hR
    · rename_i g; rw [if_pos g]; injection hR with hR; exact hR.symm
    · rename_i g; rw [if_neg g]; exact hR
 unfold KV
 simp only [lo, hi]
 have part : ¬ (blk s a < s.size /\ ay s (blk s a) = 41) -> _ := fun h => call h
 refine ⟨aK _, aT _, hs, fun _ => ⟨fun hlt => ⟨⟨hb.2.1, of_decide_eq_true hlt⟩, fun h41 => ⟨⟨by have := hb.2.1; omega, by have := hs.1; omega⟩, ?_⟩, fun h41 => ?_⟩, fun hlt => ?_⟩, fun h => (by cases h)⟩
 · have hlt := of_decide_eq_true hlt
   have h41 : ay s (blk s a) = 41 := by simpa using h41
   rw [kJ, if_pos ⟨hlt, h41⟩] at hR
   injection hR with hR
   rw [eR, ← hR] at hp
   exact mh.mk hp (aK _) (aO _)
 all_goals
  obtain ⟨r, hr, hRr⟩ := call (by first | (rintro ⟨_, h⟩; simp [h] at h41; done) | (rintro ⟨h, _⟩; simp [h] at hlt; done))
  have er := yw (g := g) (by omega : f <= g) hr
  obtain ⟨k1, k2, k3, k4⟩ := (yu s f).1 _ _ _ _ hr hb hc
  refine ⟨⟨by omega, by omega⟩, aK _, aT _, ⟨hb, hc, ⟨by omega, by omega⟩, by rw [jP (by omega : f <= g) hr]; rfl⟩, fun he => ?_, fun he => ⟨by have := hc.2; omega, ?_⟩⟩
  · rw [er] at he ⊢
    have he : r.e ≠ 0 := by simpa using he
    rw [if_pos he] at hRr
    rw [eR, hRr] at hp
    exact mh.mk hp (aK _) (aO _)
  · rw [er] at he ⊢
    have he : r.e = 0 := by simpa using he
    rw [if_neg (by simpa using he)] at hRr
    rw [eR] at hp
    refine ⟨⟨f, r.a, r.c, acc ++ [r.d]⟩, Nat.lt_succ_self f, aK _, ?_, ⟨by simp only; omega, k1, ⟨Int.le_trans hc.1 k3, k2 he⟩, ⟨hl1, hl2⟩, by have := k4 he; simp; omega, by simp only; rw [hRr]; rfl⟩, ?_⟩
    · rw [he]
      refine ⟨dP _, dP _, dP _, ⟨rfl, rfl, by simp, fun k hk j hj => Ih acc r.d k j hk hj⟩, trivial⟩
    · simp only
      have : post (.ret, [.ptr 1 0], [some (pOb s (j4 s f lv r.a r.c (acc ++ [r.d])).a (j4 s f lv r.a r.c (acc ++ [r.d])).c (j4 s f lv r.a r.c (acc ++ [r.d])).e),
        some (.cells kF [vI .i64 4, vI .i64 0, vS noS, .nm 2]), some (.row kF 4 (j4 s f lv r.a r.c (acc ++ [r.d])).d.l.length (dmL (j4 s f lv r.a r.c (acc ++ [r.d])).d.l))]) := by
        rw [FU hRr]; exact hp
      exact this
end Rd
set_option linter.unusedSimpArgs false
set_option linter.unusedVariables false
open Rx Go
namespace Rd
theorem R8 {g : Nat} (hD : (zq g).Ok prog) : JC (PV g) (GA g) D9 := by
 intro svs obl args obs out h
 unfold GA at h
 simp only at h
 repeat' split at h
 all_goals first
  | (simp only [Option.some.injEq, Prod.mk.injEq] at h; obtain ⟨rfl, rfl, rfl⟩ := h; apply FJ hD)
  | cases h
theorem MU {g : Nat} (hD : (zq g).Ok prog) : (PV g).Lok (bM (bP tq)) := by
 have hl : bM (bP tq) = [D9] := by kernel_rfl
 rw [hl]
 refine lC fun f h c hc hr => ?_
 rw [List.mem_singleton] at hc h
 subst hc; subst h
 exact R8 hD
theorem OJ (d : Dm) : leS (.agg [vI .i64 4, .ki .i64 0, vS ⟨#[]⟩, .dt (.arr 4 2 (lI 4 [Dt.cell (.int .i64 3), .cell (.int .i64 0), .cell (.string nE), .cell (.slice none 0 0), .cell (.int .i64 d.k), .cell (.int .i64 d.n), .cell (.string d.s), .arr 4 d.l.length (dmL d.l)]))]) (dmS (.mk 4 0 noS [.mk 3 0 nE [], d])) := by
 simp only [dmS, dmA, Dm.k, Dm.n, Dm.s, Dm.l, Ep, uK, yF, and_true]
 refine ⟨aN _, (mX _ _ _).2 rfl, aN _, ?_⟩
 rw [EF, PU]
 refine ⟨rfl, .inr ⟨rfl, fun k hk j hj => ?_⟩⟩
 rw [xX hj (by simp; omega)]
 match k, hk with
 | 0, _ =>
   match j, hj with
   | 0, _ => simp [dmL, dmT, bX]
   | 1, _ => simp [dmL, dmT, bX]
   | 2, _ => simp [dmL, dmT, bX]
   | 3, _ => simp [dmL, dmT, bX, isNil]
 | 1, _ =>
   have e : dmL [.mk 3 0 nE [], d] 1 j = dmT d j := by simp [dmL]
   rw [e, O5 d j hj]
   match j, hj with
   | 0, _ => exact dh _
   | 1, _ => exact dh _
   | 2, _ => exact dh _
   | 3, _ => exact dh _
theorem zL {g : Nat} (hD : (zq g).Ok prog) (s : ByteArray) (lv a c : Int) : Ctr prog yh [.ptr 0 0, vI .i64 lv] [pOb s a c 0] (Fw s (g + 1) lv a c) := by
 refine ji mixed (N := 153) (fn := tq) (c := bP tq) (ks := Sw g) (ls := [GA g]) (by kernel_rfl) (by kernel_rfl) (by kernel_rfl) (LV hD) ⟨true, none⟩ (MU hD) (by kernel_rfl) (Q := Qq s g lv a c) (fun post hp => ?_) (fun R => by kernel_rfl)
 obtain ⟨⟨hs, hc, hl, hsome⟩, hp⟩ := hp
 have hp : post (dmS (aZ s (g + 1) lv a c).d, [some (pOb s (aZ s (g + 1) lv a c).a (aZ s (g + 1) lv a c).c (aZ s (g + 1) lv a c).e)]) := hp
 obtain ⟨R, hR⟩ := Option.isSome_iff_exists.1 hsome
 rw [yw (Nat.le_refl _) hR] at hp
 have b1 := vH s a
 have b2 := vO s a hs.2.2
 have hb : okS s (blk s a) := ⟨hs.1, by have := hs.2.1; omega, b2⟩
 have hcl := hc.1
 have hcu := hc.2
 have hl1 := hl.1
 have hl2 := hl.2
 have hs1 := hs.1
 have hb0 := hb.2.1
 have leaf : ∀ {v : SV} {d : Dm} {a c e : Int}, R = ⟨d, a, c, e⟩ -> leS v (dmS d) -> Gives post v [some (pOb s a c e)] := fun h hv => by
  rw [h] at hp; exact lM hp hv (aO _)
 rw [iD] at hR
 unfold Qq
 simp only [lo, hi]
 refine ⟨aK _, aT _, hs, fun h => (by cases h), fun _ => ⟨fun h => ⟨aK _, aT _, trivial, ?_⟩, fun h1 => ⟨⟨by omega, by omega⟩, fun h => ⟨aK _, aT _, trivial, ?_⟩, fun h2 =>
  ⟨fun h => ⟨aK _, aT _, trivial, ?_⟩, fun h3 => ?_⟩⟩⟩⟩
 · have h : blk s a = s.size := by simpa using h
   rw [if_pos h] at hR
   injection hR with hR
   exact leaf hR.symm (aN _)
 · have h1 : ¬ blk s a = s.size := by simpa using h1
   rw [if_neg h1, if_pos (of_decide_eq_true h)] at hR
   injection hR with hR
   exact leaf hR.symm (aN _)
 · have h1 : ¬ blk s a = s.size := by simpa using h1
   rw [if_neg h1, if_neg (of_decide_eq_false h2), if_pos (of_decide_eq_true h)] at hR
   injection hR with hR
   exact leaf hR.symm (aN _)
 have h1 : ¬ blk s a = s.size := by simpa using h1
 have h2 := of_decide_eq_false h2
 have h3 := of_decide_eq_false h3
 rw [if_neg h1, if_neg h2, if_neg h3] at hR
 have hb1 : okS s (blk s a + 1) := ⟨hs1, by omega, by omega⟩
 have hc1 : okC (c + 1) := ⟨by omega, by omega⟩
 refine ⟨⟨hb0, by omega⟩, fun h => ⟨aK _, aT _, trivial, ?_⟩, fun h41 => ?_⟩
 · have h : ay s (blk s a) = 41 := by simpa using h
   rw [if_pos h] at hR
   injection hR with hR
   exact leaf hR.symm (aN _)
 have h41 : ¬ ay s (blk s a) = 41 := by simpa using h41
 rw [if_neg h41] at hR
 refine ⟨fun h => ?_, fun h39 => ?_⟩
 · have h : ay s (blk s a) = 39 := by simpa using h
   rw [if_pos h] at hR
   obtain ⟨r, hr, hRr⟩ := Option.map_eq_some_iff.1 hR
   refine ⟨⟨by omega, by omega⟩, ⟨by omega, by omega⟩, aK _, aT _, ⟨hb1, hc1, ⟨by omega, by omega⟩, by rw [hr]; rfl⟩, trivial, ?_⟩
   rw [yw (Nat.le_refl _) hr]
   exact leaf hRr.symm (OJ r.d)
 have h39 : ¬ ay s (blk s a) = 39 := by simpa using h39
 rw [if_neg h39] at hR
 refine ⟨fun h => ?_, fun h40 => ?_⟩
 · have h : ay s (blk s a) = 40 := by simpa using h
   rw [if_pos h] at hR
   obtain ⟨k1, k2, k3, k4⟩ := (yu s g).2 _ _ _ _ _ hR hb1 hc1
   refine ⟨⟨by omega, by omega⟩, ⟨aN _, aN _, aN _, aN _, trivial⟩, ?_, ⟨Nat.le_refl _, hb1, hc1, ⟨by omega, by omega⟩, by simp [gG]; omega, by
    show (kJ s g lv (blk s a + 1) (c + 1) []).isSome = true
    rw [hR]; rfl⟩, trivial, ?_⟩
   · exact ⟨dP _, dP _, ⟨rfl, aN _, (mX _ _ _).2 rfl, aN _, aN _, trivial⟩, ⟨rfl, rfl, rfl, fun k hk => absurd hk (by simp)⟩, trivial⟩
   · have e : j4 s g lv (blk s a + 1) (c + 1) gG = R := FU hR
     rw [e]
     refine leaf (d := .mk 4 0 noS R.d.l) (a := R.a) (c := R.c) (e := R.e) (by rw [← k4]) (aN _)
 · have h40 : ¬ ay s (blk s a) = 40 := by simpa using h40
   rw [if_neg h40] at hR
   injection hR with hR
   exact ⟨aK _, aT _, ⟨hb, hb0, Int.le_refl _⟩, trivial, leaf hR.symm (aN _)⟩
theorem Ld : ∀ f : Nat, (zq f).Ok prog := by
 have key : ∀ f : Nat, (∀ (s : ByteArray) (lv a c : Int), Ctr prog yh [.ptr 0 0, vI .i64 lv] [pOb s a c 0] (Fw s f lv a c)) -> (zq f).Ok prog := by
  intro f hf al ol args obs out h
  unfold zq at h
  simp only at h
  repeat' split at h
  all_goals first
   | (simp only [Option.some.injEq, Prod.mk.injEq] at h; obtain ⟨rfl, rfl, rfl⟩ := h; apply hf)
   | cases h
 intro f
 induction f with
 | zero => exact key 0 fun s lv a c => uM fun h => by obtain ⟨_, _, _, h⟩ := h; simp [iD] at h
 | succ f ih => exact key (f + 1) fun s lv a c => zL ih s lv a c
theorem Vv (s : ByteArray) (f : Nat) (lv a c : Int) : Ctr prog yh [.ptr 0 0, vI .i64 lv] [pOb s a c 0] (Fw s f lv a c) := by
 cases f with
 | zero => exact uM fun h => by obtain ⟨_, _, _, h⟩ := h; simp [iD] at h
 | succ f => exact zL (Ld f) s lv a c
end Rd
set_option linter.unusedSimpArgs false
set_option linter.unusedVariables false
open Rx Go
namespace Rd
structure RR where
 l : List Dm
 i : Int
 e : Int
instance : Inhabited RR := ⟨⟨[], 0, 0⟩⟩
def lY (s : ByteArray) : Nat -> Int -> Int -> List Dm -> Option RR
 | 0, _, _, _ => none
 | f + 1, a, c, acc =>
   if a < s.size then match iD s f 1 a c with
     | none => none
     | some r => if r.e ≠ 0 then some ⟨[], r.a, r.e⟩ else lY s f (blk s r.a) r.c (acc ++ [r.d])
   else some ⟨acc, 0, 0⟩
def sV (s : ByteArray) (f : Nat) (a c : Int) (acc : List Dm) : RR := (lY s f a c acc).getD default
def oz (f : Nat) (s : ByteArray) : Option RR := lY s f (blk s 0) 0 []
def jY (f : Nat) (s : ByteArray) : RR := (oz f s).getD default
def SG (f : Nat) (s : ByteArray) : T Out := .need (s.size <= 3000 /\ (oz f s).isSome = true) (.ret (.tup [dmA (jY f s).l, vI .i64 (jY f s).i, vI .i64 (jY f s).e], []))
def SI (f : Nat) : FC := ⟨D5, false, false, fun al ol => match al, ol with
 | [x], [] => match rdS x with
   | some s => some ([vS s], [], SG f s)
   | none => none
 | _, _ => none⟩
def J3 (s : ByteArray) : List SV := [vS s, .ptr 0 0, .nm 1]
def NQ (s : ByteArray) (x : LX) : List (Option Ob) := [some (pOb s x.a x.c 0), some (.row kF 4 x.acc.length (dmL x.acc))]
def SH (s : ByteArray) (r : RR) : T OutC := .ite (r.e == 0) (.ret (.exit 0, [.nm 0], [some (.row kF 4 r.l.length (dmL r.l))])) (.ret (.ret, [.dt (.cell (.slice none 0 0)), vI .i64 r.i, vI .i64 r.e], []))
def OA (s : ByteArray) (g : Nat) (x : LX) : T OutC := .need (x.f <= g /\ okS s x.a /\ okC x.c /\ x.acc.length <= x.c /\ (lY s x.f x.a x.c x.acc).isSome = true) (SH s (sV s x.f x.a x.c x.acc))
def H8 (g : Nat) : LF := ⟨6, ⟨[0, 5, 6], [6], [2, 3, 4]⟩, fun svs obl => match svs, obl with
 | [_, .ptr 0 0, .nm 1], some (.cells _ [s, a, c, _]) :: _ => match rdS s, rdI a, rdI c with
   | some s, some a, some c => some (J3 s, NQ s ⟨g, a, c, gG⟩, OA s g ⟨g, a, c, gG⟩)
   | _, _, _ => none
 | _, _ => none⟩
def Sk (g : Nat) : List (Nat × Nat × FC) := [(4, 0, noF), (5, 1, bkF), (8, 1, zq g), (7, 1, bkF), (12, 1, clF)]
noncomputable def O4 (g : Nat) : Env := fnE prog 46 0 (Sk g) [H8 g]
noncomputable def Fb : Code := (jq 6 (bP zC)).getD .skip
def KO (s : ByteArray) (g : Nat) (a c : Int) (acc : List Dm) (Rn : List SV -> List (Option Ob) -> Prop) (Re : Ex -> List SV -> List (Option Ob) -> Prop) : Prop :=
(((decide (a < (↑s.size : Int)) = true) ->
 ((Rx.leL ([SV.ptr 0 0, SV.dt (Dt.cell (.int .i64 (1 : Int)))]) ([SV.ptr 0 0, SV.dt (Dt.cell (.int .i64 (1 : Int)))])) /\
  ((Rx.bn ([Ob.cells 101 [SV.dt (Dt.cell (.string s)), SV.dt (Dt.cell (.int .i64 a)), SV.dt (Dt.cell (.int .i64 c)), SV.dt (Dt.cell (.int .i64 (0 : Int)))]]) ([Ob.cells 101 [SV.dt (Dt.cell (.string s)), SV.dt (Dt.cell (.int .i64 a)), SV.dt (Dt.cell (.int .i64 c)), SV.dt (Dt.cell (.int .i64 (0 : Int)))]])) /\
   (((Rd.okS s a) /\
     ((Rd.okC c) /\
      ((Rd.okL (1 : Int)) /\
       ((Rd.iD s g (1 : Int) a c).isSome = true)))) /\
    (((((Rd.aZ s g (1 : Int) a c).e != (0 : Int)) = true) ->
      Re (Rx.Ex.ret) ([SV.dt (Dt.cell (.slice Option.none (0 : Nat) (0 : Nat))), SV.dt (Dt.cell (.int .i64 (Rd.aZ s g (1 : Int) a c).a)), SV.dt (Dt.cell (.int .i64 (Rd.aZ s g (1 : Int) a c).e))]) ([])) /\
     ((((Rd.aZ s g (1 : Int) a c).e != (0 : Int)) = false) ->
      (((acc.length + (1 : Nat)) * (56 : Nat) <= (140737488355328 : Nat)) /\
       ((Rx.leL ([SV.ptr 0 0]) ([SV.ptr 0 0])) /\
        ((Rx.bn ([Ob.cells 101 [SV.dt (Dt.cell (.string s)), SV.dt (Dt.cell (.int .i64 (Rd.aZ s g (1 : Int) a c).a)), SV.dt (Dt.cell (.int .i64 (Rd.aZ s g (1 : Int) a c).c)), SV.dt (Dt.cell (.int .i64 (Rd.aZ s g (1 : Int) a c).e))]]) ([Ob.cells 101 [SV.dt (Dt.cell (.string s)), SV.dt (Dt.cell (.int .i64 (Rd.aZ s g (1 : Int) a c).a)), SV.dt (Dt.cell (.int .i64 (Rd.aZ s g (1 : Int) a c).c)), SV.dt (Dt.cell (.int .i64 (Rd.aZ s g (1 : Int) a c).e))]])) /\
         ((Rd.okS s (Rd.aZ s g (1 : Int) a c).a) /\
          Rn ([SV.dt (Dt.cell (.string s)), SV.ptr 0 0, SV.nm 1]) ([some (Ob.cells 101 [SV.dt (Dt.cell (.string s)), SV.dt (Dt.cell (.int .i64 (Rd.blk s (Rd.aZ s g (1 : Int) a c).a))), SV.dt (Dt.cell (.int .i64 (Rd.aZ s g (1 : Int) a c).c)), SV.dt (Dt.cell (.int .i64 (Rd.aZ s g (1 : Int) a c).e))]), some (Ob.row 47 4 (acc.length + (1 : Nat)) (Rx.dL acc.length (Rd.dmL acc) (Rx.lI (4 : Nat) [Rx.Dt.cell (.int .i64 (Rd.aZ s g (1 : Int) a c).d.k), Rx.Dt.cell (.int .i64 (Rd.aZ s g (1 : Int) a c).d.n), Rx.Dt.cell (.string (Rd.aZ s g (1 : Int) a c).d.s), Rx.Dt.arr (4 : Nat) (Rd.aZ s g (1 : Int) a c).d.l.length (Rd.dmL (Rd.aZ s g (1 : Int) a c).d.l)])))]))))))))))) /\
((decide (a < (↑s.size : Int)) = false) ->
 Re (Rx.Ex.exit (0 : Nat)) ([SV.nm 0]) ([some (Ob.row 47 4 (acc.length) (Rd.dmL acc))])))
def SL (s : ByteArray) (g : Nat) (R : SV -> List (Option Ob) -> Prop) : Prop :=
(((decide ((↑s.size : Int) > (3000 : Int)) = true) ->
 (True /\
  R (SV.tup [SV.dt (Dt.cell (.slice Option.none (0 : Nat) (0 : Nat))), SV.dt (Dt.cell (.int .i64 (0 : Int))), SV.dt (Dt.cell (.int .i64 (1 : Int)))]) ([]))) /\
((decide ((↑s.size : Int) > (3000 : Int)) = false) ->
 ((Rx.leL ([SV.ptr 0 0]) ([SV.ptr 0 0])) /\
  ((Rx.bn ([Ob.cells 101 [SV.dt (Dt.cell (.string s)), SV.ki .i64 ((0 : Int)), SV.ki .i64 ((0 : Int)), SV.ki .i64 ((0 : Int))]]) ([Ob.cells 101 [SV.dt (Dt.cell (.string s)), SV.dt (Dt.cell (.int .i64 (0 : Int))), SV.dt (Dt.cell (.int .i64 (0 : Int))), SV.dt (Dt.cell (.int .i64 (0 : Int)))]])) /\
   ((Rd.okS s (0 : Int)) /\
    (((Rx.leS (SV.dt (Dt.cell (.string s))) (SV.dt (Dt.cell (.string s)))) /\
      ((Rx.leS (SV.ptr 0 0) (SV.ptr 0 0)) /\
       ((Rx.leS (SV.nm 1) (SV.nm 1)) /\
        True))) /\
     ((Rx.leOO ([some (Ob.cells 101 [SV.dt (Dt.cell (.string s)), SV.dt (Dt.cell (.int .i64 (Rd.blk s (0 : Int)))), SV.dt (Dt.cell (.int .i64 (0 : Int))), SV.dt (Dt.cell (.int .i64 (0 : Int)))]), some (Ob.row 47 4 ((0 : Nat)) (fun x x_1 => Rx.aX))]) ([some (Ob.cells 101 [SV.dt (Dt.cell (.string s)), SV.dt (Dt.cell (.int .i64 (Rd.blk s (0 : Int)))), SV.dt (Dt.cell (.int .i64 (0 : Int))), SV.dt (Dt.cell (.int .i64 (0 : Int)))]), some (Ob.row 47 4 (Rd.gG.length) (Rd.dmL Rd.gG))])) /\
      (((g <= g) /\
        ((Rd.okS s (Rd.blk s (0 : Int))) /\
         ((Rd.okC (0 : Int)) /\
          (((↑Rd.gG.length : Int) <= (0 : Int)) /\
           ((Rd.lY s g (Rd.blk s (0 : Int)) (0 : Int) Rd.gG).isSome = true))))) /\
       (((((Rd.sV s g (Rd.blk s (0 : Int)) (0 : Int) Rd.gG).e == (0 : Int)) = true) ->
         ((Rx.leL ([SV.dt (Dt.arr ((4 : Nat)) ((Rd.sV s g (Rd.blk s (0 : Int)) (0 : Int) Rd.gG).l.length) (Rd.dmL (Rd.sV s g (Rd.blk s (0 : Int)) (0 : Int) Rd.gG).l))]) ([SV.dt (Dt.arr ((4 : Nat)) ((Rd.sV s g (Rd.blk s (0 : Int)) (0 : Int) Rd.gG).l.length) (Rd.dmL (Rd.sV s g (Rd.blk s (0 : Int)) (0 : Int) Rd.gG).l))])) /\
          ((Rx.bn ([]) ([])) /\
           (True /\
            R (SV.tup [SV.dt (Dt.arr ((4 : Nat)) ((Rd.sV s g (Rd.blk s (0 : Int)) (0 : Int) Rd.gG).l.length) (Rd.dmL (Rd.sV s g (Rd.blk s (0 : Int)) (0 : Int) Rd.gG).l)), SV.dt (Dt.cell (.int .i64 (0 : Int))), SV.dt (Dt.cell (.int .i64 (0 : Int)))]) ([]))))) /\
        ((((Rd.sV s g (Rd.blk s (0 : Int)) (0 : Int) Rd.gG).e == (0 : Int)) = false) ->
         (True /\
          R (SV.tup [SV.dt (Dt.cell (.slice Option.none (0 : Nat) (0 : Nat))), SV.dt (Dt.cell (.int .i64 (Rd.sV s g (Rd.blk s (0 : Int)) (0 : Int) Rd.gG).i)), SV.dt (Dt.cell (.int .i64 (Rd.sV s g (Rd.blk s (0 : Int)) (0 : Int) Rd.gG).e))]) ([]))))))))))))
theorem A8 (s : ByteArray) : ∀ (f : Nat) (a c : Int) (acc : List Dm) (r : RR), lY s f a c acc = some r -> (r.e = 0 -> r.i = 0) /\ (r.e ≠ 0 -> r.l = [])
 | 0, _, _, _, _, h => by simp [lY] at h
 | f + 1, a, c, acc, r, h => by
   rw [lY] at h
   split at h
   · split at h
     · cases h
     · rename_i q _
       split at h
       · rename_i g; injection h with h; subst h; exact ⟨fun h => absurd h g, fun _ => rfl⟩
       · exact A8 s f _ _ _ _ h
   · injection h with h; subst h; exact ⟨fun _ => rfl, fun h => absurd rfl h⟩
theorem FI {s : ByteArray} {f : Nat} {a c : Int} {acc : List Dm} {r : RR} (hr : lY s f a c acc = some r) : sV s f a c acc = r := by
 unfold sV
 rw [hr]; rfl
theorem NZ {f : Nat} {s : ByteArray} {r : RR} (hr : oz f s = some r) : jY f s = r := by
 unfold jY
 rw [hr]; rfl
theorem Ls (g : Nat) : ∀ x ∈ Sk g, x.2.2.Ok prog := all_cons Qg (all_cons F4 (all_cons (Ld g) (all_cons F4 (all_cons TN all_nil))))
theorem EW {g : Nat} (s : ByteArray) (x : LX) : Sound (O4 g) (.loop Fb) (jM ((H8 g).live.h.zip (J3 s)) (NQ s x)) ((OA s g x).map (OutC.st (H8 g).live)) := by
 refine qy mixed (ks := Sk g) (ls := [H8 g]) (c := Fb) (nb := 0) (N := 46) (Ls g) (fU (by kernel_rfl)) (H8 g).live (fun _ : LX => J3 s) (fun x => NQ s x) (fun x => OA s g x) (fun x => x.f)
  (Q := fun x => KO s g x.a x.c x.acc) (fun x post hp => ?_) (fun a Rn Re => by kernel_rfl) x
 obtain ⟨f, a, c, acc⟩ := x
 obtain ⟨⟨hf, hs, hc, ha, hsome⟩, hp0⟩ := hp
 obtain ⟨R, hR⟩ := Option.isSome_iff_exists.1 hsome
 have hp : (SH s (sV s f a c acc)).holds post := hp0
 clear hp0
 rw [FI hR] at hp
 simp only at hf hs hc ha hR
 have hcl := hc.1
 have hcu := hc.2
 cases f with
 | zero => simp [lY] at hR
 | succ f =>
 rw [lY] at hR
 unfold KO
 refine ⟨fun hlt => ?_, fun hlt => ?_⟩
 · rw [if_pos (of_decide_eq_true hlt)] at hR
   split at hR
   · cases hR
   · rename_i r hr
     have er := yw (g := g) (by omega : f <= g) hr
     obtain ⟨k1, k2, k3, k4⟩ := (yu s f).1 _ _ _ _ hr hs hc
     refine ⟨aK _, aT _, ⟨hs, hc, ⟨by omega, by omega⟩, by rw [jP (by omega : f <= g) hr]; rfl⟩, fun he => ?_, fun he => ⟨by show (acc.length + 1) * 56 <= 140737488355328; omega, aK _, aT _, by rw [er]; exact k1, ?_⟩⟩
     · rw [er] at he ⊢
       have he : r.e ≠ 0 := by simpa using he
       rw [if_pos he] at hR
       injection hR with hR
       rw [← hR] at hp
       exact mh.mk (hp.2 (by simpa using he)) (aK _) (aO _)
     · rw [er] at he ⊢
       have he : r.e = 0 := by simpa using he
       rw [if_neg (by simpa using he)] at hR
       have c1 := vH s r.a
       have c2 := vO s r.a k1.2.2
       refine ⟨⟨f, blk s r.a, r.c, acc ++ [r.d]⟩, Nat.lt_succ_self f, aK _, ?_, ⟨by simp only; omega, ⟨k1.1, by have := k1.2.1; simp only; omega, c2⟩, ⟨Int.le_trans hcl k3, k2 he⟩, by have := k4 he; simp; omega, by simp only; rw [hR]; rfl⟩, ?_⟩
       · rw [he]
         exact ⟨dP _, ⟨rfl, rfl, by simp, fun k hk j hj => Ih acc r.d k j hk hj⟩, trivial⟩
       · simp only
         rw [FI hR]; exact hp
 · rw [if_neg (of_decide_eq_false hlt)] at hR
   injection hR with hR
   rw [← hR] at hp
   exact mh.mk (hp.1 rfl) (aK _) (aO _)
theorem Sg {g : Nat} : JC (O4 g) (H8 g) Fb := by
 intro svs obl args obs out h
 unfold H8 at h
 simp only at h
 repeat' split at h
 all_goals first
  | (simp only [Option.some.injEq, Prod.mk.injEq] at h; obtain ⟨rfl, rfl, rfl⟩ := h; apply EW)
  | cases h
theorem ML {g : Nat} : (O4 g).Lok (bM (bP zC)) := by
 have hl : bM (bP zC) = [Fb] := by kernel_rfl
 rw [hl]
 refine lC fun f h c hc hr => ?_
 rw [List.mem_singleton] at hc h
 subst hc; subst h
 exact Sg
theorem Hr (g : Nat) (s : ByteArray) : Ctr prog D5 [vS s] [] (SG g s) := by
 refine ji mixed (N := 46) (fn := zC) (c := bP zC) (ks := Sk g) (ls := [H8 g]) (by kernel_rfl) (by kernel_rfl) (by kernel_rfl) (Ls g) AJ ML (by kernel_rfl) (Q := SL s g) (fun post hp => ?_) (fun R => by kernel_rfl)
 obtain ⟨⟨hs, hsome⟩, hp⟩ := hp
 have hp : post (.tup [dmA (jY g s).l, vI .i64 (jY g s).i, vI .i64 (jY g s).e], []) := hp
 obtain ⟨R, hR⟩ := Option.isSome_iff_exists.1 hsome
 rw [NZ hR] at hp
 have hR' : lY s g (blk s 0) 0 gG = some R := hR
 have eR := FI hR'
 have b1 := vH s 0
 have b2 := vO s 0 (by omega)
 obtain ⟨k1, k2⟩ := A8 _ _ _ _ _ _ hR
 unfold SL
 refine ⟨fun h => absurd (of_decide_eq_true h) (by omega), fun _ => ⟨aK _, ⟨⟨rfl, aN _, (mX _ _ _).2 rfl, (mX _ _ _).2 rfl, (mX _ _ _).2 rfl, trivial⟩, trivial⟩, ⟨hs, by omega, by omega⟩, ⟨aN _, aN _, aN _, trivial⟩,
  ⟨dP _, ⟨rfl, rfl, rfl, fun k hk => absurd hk (by simp)⟩, trivial⟩, ⟨Nat.le_refl _, ⟨hs, by omega, b2⟩, ⟨by omega, by omega⟩, by simp [gG], by rw [hR']; rfl⟩, fun he => ⟨aK _, trivial, trivial, ?_⟩, fun he => ⟨trivial, ?_⟩⟩⟩
 · rw [eR] at he ⊢
   have he : R.e = 0 := by simpa using he
   refine vY hp ?_
   rw [he, k1 he]
   exact aN _
 · rw [eR] at he ⊢
   have he : R.e ≠ 0 := by simpa using he
   refine vY hp ?_
   rw [k2 he]
   simp only [Q9, uK, yF, and_true]
   refine ⟨?_, aN _, aN _⟩
   unfold dmA
   rw [EF]
   simp only [bX]
   exact ⟨rfl, rfl⟩
theorem VU (g : Nat) : (SI g).Ok prog := by
 intro al ol args obs out h
 unfold SI at h
 simp only at h
 repeat' split at h
 all_goals first
  | (simp only [Option.some.injEq, Prod.mk.injEq] at h; obtain ⟨rfl, rfl, rfl⟩ := h; apply Hr)
  | cases h
end Rd
