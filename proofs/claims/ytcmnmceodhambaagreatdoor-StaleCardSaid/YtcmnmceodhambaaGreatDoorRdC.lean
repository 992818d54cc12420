/- The reader's recursion. -/
import Derived.Test.YtcmnmceodhambaaGreatDoorRdB
set_option linter.unusedSimpArgs false
set_option linter.unusedVariables false
open Rx Go
namespace Rd
theorem NK : noF.Ok prog := by
 intro al ol args obs out h
 cases h
theorem K8 {g : Nat} (hD : (xZ g).Ok prog) : ∀ x ∈ Rz g, x.2.2.Ok prog :=
 all_cons ED (all_cons uH (all_cons uH (all_cons uH (all_cons uH (all_cons hD (all_cons NK (all_cons ED (all_cons hD (all_cons UC all_nil)))))))))
theorem wX {s : ByteArray} {f g : Nat} {lv a c : Int} {r : PR} (h : f <= g) (hr : iB s f lv a c = some r) : aX s g lv a c = r := by
 unfold aX
 rw [jR h hr]; rfl
theorem EY {s : ByteArray} {f : Nat} {lv a c : Int} {acc : List Dm} {r : PR} (hr : jY s f lv a c acc = some r) : kK s f lv a c acc = r := by
 unfold kK
 rw [hr]; rfl
theorem Db {g : Nat} (hD : (xZ g).Ok prog) (s : ByteArray) (lv : Int) (x : LX) : Sound (Pk g) (.loop E9) (jM ((FP g).live.h.zip (Jh lv)) (P6 s x)) ((Nv s g lv x).map (OutC.st (FP g).live)) := by
 refine qp mixed (ks := Rz g) (ls := [FP g]) (c := E9) (nb := 1) (N := 153) (K8 hD) (fP (by kernel_rfl)) (FP g).live (fun _ : LX => Jh lv) (fun x => P6 s x) (fun x => Nv s g lv x) (fun x => x.f)
  (Q := fun x => Km s g lv x.a x.c x.acc) (fun x post hp => ?_) (fun a Rn Re => by kernel_rfl) x
 obtain ⟨f, a, c, acc⟩ := x
 obtain ⟨⟨hf, hs, hc, ⟨hl1, hl2⟩, ha, hsome⟩, hp⟩ := hp
 have hp : post (.ret, [.ptr 1 0], [some (pOb s (kK s f lv a c acc).a (kK s f lv a c acc).c (kK s f lv a c acc).e),
  some (.cells jU [vI .i64 4, vI .i64 0, vS noS, .nm 2]), some (.row jU 4 (kK s f lv a c acc).d.l.length (dmL (kK s f lv a c acc).d.l))]) := hp
 obtain ⟨R, hR⟩ := Option.isSome_iff_exists.1 hsome
 have eR := EY hR
 simp only at hf hs hc ha hR
 have b1 := uF s a
 have b2 := vG s a hs.2.2
 have hb : okS s (blk s a) := ⟨hs.1, by have := hs.2.1; omega, b2⟩
 cases f with
 | zero => simp [jY] at hR
 | succ f =>
 have call : ¬ (blk s a < s.size /\ ay s (blk s a) = 41) -> ∃ r, iB s f (lv + 1) (blk s a) c = some r /\ (if r.e ≠ 0 then R = ⟨.mk 4 0 noS acc, r.a, r.c, r.e⟩ else jY s f lv r.a r.c (acc ++ [r.d]) = some R) := fun h => by
  rw [jY, if_neg h] at hR
  split at hR
  · cases hR
  · rename_i r hr
    refine ⟨r, hr, ?_⟩
    split at hR
    · rename_i g; rw [if_pos g]; injection hR with hR; exact hR.symm
    · rename_i g; rw [if_neg g]; exact hR
 unfold Km
 simp only [lo, hi]
 have part : ¬ (blk s a < s.size /\ ay s (blk s a) = 41) -> _ := fun h => call h
 refine ⟨aK _, aR _, hs, fun _ => ⟨fun hlt => ⟨⟨hb.2.1, of_decide_eq_true hlt⟩, fun h41 => ⟨⟨by have := hb.2.1; omega, by have := hs.1; omega⟩, ?_⟩, fun h41 => ?_⟩, fun hlt => ?_⟩, fun h => (by cases h)⟩
 · have hlt := of_decide_eq_true hlt
   have h41 : ay s (blk s a) = 41 := by simpa using h41
   rw [jY, if_pos ⟨hlt, h41⟩] at hR
   injection hR with hR
   rw [eR, ← hR] at hp
   exact l9.mk hp (aK _) (aN _)
 all_goals
  obtain ⟨r, hr, hRr⟩ := call (by first | (rintro ⟨_, h⟩; simp [h] at h41; done) | (rintro ⟨h, _⟩; simp [h] at hlt; done))
  have er := wX (g := g) (by omega : f <= g) hr
  obtain ⟨k1, k2, k3, k4⟩ := (xE s f).1 _ _ _ _ hr hb hc
  refine ⟨⟨by omega, by omega⟩, aK _, aR _, ⟨hb, hc, ⟨by omega, by omega⟩, by rw [jR (by omega : f <= g) hr]; rfl⟩, fun he => ?_, fun he => ⟨by have := hc.2; omega, ?_⟩⟩
  · rw [er] at he ⊢
    have he : r.e ≠ 0 := by simpa using he
    rw [if_pos he] at hRr
    rw [eR, hRr] at hp
    exact l9.mk hp (aK _) (aN _)
  · rw [er] at he ⊢
    have he : r.e = 0 := by simpa using he
    rw [if_neg (by simpa using he)] at hRr
    rw [eR] at hp
    refine ⟨⟨f, r.a, r.c, acc ++ [r.d]⟩, Nat.lt_succ_self f, aK _, ?_, ⟨by simp only; omega, k1, ⟨Int.le_trans hc.1 k3, k2 he⟩, ⟨hl1, hl2⟩, by have := k4 he; simp; omega, by simp only; rw [hRr]; rfl⟩, ?_⟩
    · rw [he]
      refine ⟨dL _, dL _, dL _, ⟨rfl, rfl, by simp, fun k hk j hj => F3 acc r.d k j hk hj⟩, trivial⟩
    · simp only
      have : post (.ret, [.ptr 1 0], [some (pOb s (kK s f lv r.a r.c (acc ++ [r.d])).a (kK s f lv r.a r.c (acc ++ [r.d])).c (kK s f lv r.a r.c (acc ++ [r.d])).e),
        some (.cells jU [vI .i64 4, vI .i64 0, vS noS, .nm 2]), some (.row jU 4 (kK s f lv r.a r.c (acc ++ [r.d])).d.l.length (dmL (kK s f lv r.a r.c (acc ++ [r.d])).d.l))]) := by
        rw [EY hRr]; exact hp
      exact this
end Rd
set_option linter.unusedSimpArgs false
set_option linter.unusedVariables false
open Rx Go
namespace Rd
theorem Rh {g : Nat} (hD : (xZ g).Ok prog) : I5 (Pk g) (FP g) E9 := by
 intro svs obl args obs out h
 unfold FP at h
 simp only at h
 repeat' split at h
 all_goals first
  | (simp only [Option.some.injEq, Prod.mk.injEq] at h; obtain ⟨rfl, rfl, rfl⟩ := h; apply Db hD)
  | cases h
theorem LQ {g : Nat} (hD : (xZ g).Ok prog) : (Pk g).Lok (bK (bO uh)) := by
 have hl : bK (bO uh) = [E9] := by kernel_rfl
 rw [hl]
 refine kZ fun f h c hc hr => ?_
 rw [List.mem_singleton] at hc h
 subst hc; subst h
 exact Rh hD
theorem Qa (d : Dm) : leS (.agg [vI .i64 4, .ki .i64 0, vS ⟨#[]⟩, .dt (.arr 4 2 (iK 4 [Dt.cell (.int .i64 3), .cell (.int .i64 0), .cell (.string mI), .cell (.slice none 0 0), .cell (.int .i64 d.k), .cell (.int .i64 d.n), .cell (.string d.s), .arr 4 d.l.length (dmL d.l)]))]) (dmS (.mk 4 0 noS [.mk 3 0 mI [], d])) := by
 simp only [dmS, dmA, Dm.k, Dm.n, Dm.s, Dm.l, EI, tO, xA, and_true]
 refine ⟨aM _, (mJ _ _ _).2 rfl, aM _, ?_⟩
 rw [Fp, Qb]
 refine ⟨rfl, .inr ⟨rfl, fun k hk j hj => ?_⟩⟩
 rw [xk hj (by simp; omega)]
 match k, hk with
 | 0, _ =>
   match j, hj with
   | 0, _ => simp [dmL, dmT, bX]
   | 1, _ => simp [dmL, dmT, bX]
   | 2, _ => simp [dmL, dmT, bX]
   | 3, _ => simp [dmL, dmT, bX, isNil]
 | 1, _ =>
   have e : dmL [.mk 3 0 mI [], d] 1 j = dmT d j := by simp [dmL]
   rw [e, Oy d j hj]
   match j, hj with
   | 0, _ => exact dz _
   | 1, _ => exact dz _
   | 2, _ => exact dz _
   | 3, _ => exact dz _
theorem zG {g : Nat} (hD : (xZ g).Ok prog) (s : ByteArray) (lv a c : Int) : Ctr prog xK [.ptr 0 0, vI .i64 lv] [pOb s a c 0] (DN s (g + 1) lv a c) := by
 refine jl mixed (N := 153) (fn := uh) (c := bO uh) (ks := Rz g) (ls := [FP g]) (by kernel_rfl) (by kernel_rfl) (by kernel_rfl) (K8 hD) ⟨true, none⟩ (LQ hD) (by kernel_rfl) (Q := Pj s g lv a c) (fun post hp => ?_) (fun R => by kernel_rfl)
 obtain ⟨⟨hs, hc, hl, hsome⟩, hp⟩ := hp
 have hp : post (dmS (aX s (g + 1) lv a c).d, [some (pOb s (aX s (g + 1) lv a c).a (aX s (g + 1) lv a c).c (aX s (g + 1) lv a c).e)]) := hp
 obtain ⟨R, hR⟩ := Option.isSome_iff_exists.1 hsome
 rw [wX (Nat.le_refl _) hR] at hp
 have b1 := uF s a
 have b2 := vG s a hs.2.2
 have hb : okS s (blk s a) := ⟨hs.1, by have := hs.2.1; omega, b2⟩
 have hcl := hc.1
 have hcu := hc.2
 have hl1 := hl.1
 have hl2 := hl.2
 have hs1 := hs.1
 have hb0 := hb.2.1
 have leaf : ∀ {v : SV} {d : Dm} {a c e : Int}, R = ⟨d, a, c, e⟩ -> leS v (dmS d) -> Gives post v [some (pOb s a c e)] := fun h hv => by
  rw [h] at hp; exact lN hp hv (aN _)
 rw [iB] at hR
 unfold Pj
 simp only [lo, hi]
 refine ⟨aK _, aR _, hs, fun h => (by cases h), fun _ => ⟨fun h => ⟨aK _, aR _, trivial, ?_⟩, fun h1 => ⟨⟨by omega, by omega⟩, fun h => ⟨aK _, aR _, trivial, ?_⟩, fun h2 =>
  ⟨fun h => ⟨aK _, aR _, trivial, ?_⟩, fun h3 => ?_⟩⟩⟩⟩
 · have h : blk s a = s.size := by simpa using h
   rw [if_pos h] at hR
   injection hR with hR
   exact leaf hR.symm (aM _)
 · have h1 : ¬ blk s a = s.size := by simpa using h1
   rw [if_neg h1, if_pos (of_decide_eq_true h)] at hR
   injection hR with hR
   exact leaf hR.symm (aM _)
 · have h1 : ¬ blk s a = s.size := by simpa using h1
   rw [if_neg h1, if_neg (of_decide_eq_false h2), if_pos (of_decide_eq_true h)] at hR
   injection hR with hR
   exact leaf hR.symm (aM _)
 have h1 : ¬ blk s a = s.size := by simpa using h1
 have h2 := of_decide_eq_false h2
 have h3 := of_decide_eq_false h3
 rw [if_neg h1, if_neg h2, if_neg h3] at hR
 have hb1 : okS s (blk s a + 1) := ⟨hs1, by omega, by omega⟩
 have hc1 : okC (c + 1) := ⟨by omega, by omega⟩
 refine ⟨⟨hb0, by omega⟩, fun h => ⟨aK _, aR _, trivial, ?_⟩, fun h41 => ?_⟩
 · have h : ay s (blk s a) = 41 := by simpa using h
   rw [if_pos h] at hR
   injection hR with hR
   exact leaf hR.symm (aM _)
 have h41 : ¬ ay s (blk s a) = 41 := by simpa using h41
 rw [if_neg h41] at hR
 refine ⟨fun h => ?_, fun h39 => ?_⟩
 · have h : ay s (blk s a) = 39 := by simpa using h
   rw [if_pos h] at hR
   obtain ⟨r, hr, hRr⟩ := Option.map_eq_some_iff.1 hR
   refine ⟨⟨by omega, by omega⟩, ⟨by omega, by omega⟩, aK _, aR _, ⟨hb1, hc1, ⟨by omega, by omega⟩, by rw [hr]; rfl⟩, trivial, ?_⟩
   rw [wX (Nat.le_refl _) hr]
   exact leaf hRr.symm (Qa r.d)
 have h39 : ¬ ay s (blk s a) = 39 := by simpa using h39
 rw [if_neg h39] at hR
 refine ⟨fun h => ?_, fun h40 => ?_⟩
 · have h : ay s (blk s a) = 40 := by simpa using h
   rw [if_pos h] at hR
   obtain ⟨k1, k2, k3, k4⟩ := (xE s g).2 _ _ _ _ _ hR hb1 hc1
   refine ⟨⟨by omega, by omega⟩, ⟨aM _, aM _, aM _, aM _, trivial⟩, ?_, ⟨Nat.le_refl _, hb1, hc1, ⟨by omega, by omega⟩, by simp [gG]; omega, by
    show (jY s g lv (blk s a + 1) (c + 1) []).isSome = true
    rw [hR]; rfl⟩, trivial, ?_⟩
   · exact ⟨dL _, dL _, ⟨rfl, aM _, (mJ _ _ _).2 rfl, aM _, aM _, trivial⟩, ⟨rfl, rfl, rfl, fun k hk => absurd hk (by simp)⟩, trivial⟩
   · have e : kK s g lv (blk s a + 1) (c + 1) gG = R := EY hR
     rw [e]
     refine leaf (d := .mk 4 0 noS R.d.l) (a := R.a) (c := R.c) (e := R.e) (by rw [← k4]) (aM _)
 · have h40 : ¬ ay s (blk s a) = 40 := by simpa using h40
   rw [if_neg h40] at hR
   injection hR with hR
   exact ⟨aK _, aR _, ⟨hb, hb0, Int.le_refl _⟩, trivial, leaf hR.symm (aM _)⟩
theorem Lj : ∀ f : Nat, (xZ f).Ok prog := by
 have key : ∀ f : Nat, (∀ (s : ByteArray) (lv a c : Int), Ctr prog xK [.ptr 0 0, vI .i64 lv] [pOb s a c 0] (DN s f lv a c)) -> (xZ f).Ok prog := by
  intro f hf al ol args obs out h
  unfold xZ at h
  simp only at h
  repeat' split at h
  all_goals first
   | (simp only [Option.some.injEq, Prod.mk.injEq] at h; obtain ⟨rfl, rfl, rfl⟩ := h; apply hf)
   | cases h
 intro f
 induction f with
 | zero => exact key 0 fun s lv a c => sU fun h => by obtain ⟨_, _, _, h⟩ := h; simp [iB] at h
 | succ f ih => exact key (f + 1) fun s lv a c => zG ih s lv a c
theorem U6 (s : ByteArray) (f : Nat) (lv a c : Int) : Ctr prog xK [.ptr 0 0, vI .i64 lv] [pOb s a c 0] (DN s f lv a c) := by
 cases f with
 | zero => exact sU fun h => by obtain ⟨_, _, _, h⟩ := h; simp [iB] at h
 | succ f => exact zG (Lj f) s lv a c
end Rd
set_option linter.unusedSimpArgs false
set_option linter.unusedVariables false
open Rx Go
namespace Rd
structure RR where
 l : List Dm
 i : Int
 e : Int
instance : Inhabited RR := ⟨⟨[], 0, 0⟩⟩
def lQ (s : ByteArray) : Nat -> Int -> Int -> List Dm -> Option RR
 | 0, _, _, _ => none
 | f + 1, a, c, acc =>
   if a < s.size then match iB s f 1 a c with
     | none => none
     | some r => if r.e ≠ 0 then some ⟨[], r.a, r.e⟩ else lQ s f (blk s r.a) r.c (acc ++ [r.d])
   else some ⟨acc, 0, 0⟩
def uq (s : ByteArray) (f : Nat) (a c : Int) (acc : List Dm) : RR := (lQ s f a c acc).getD default
def oC (f : Nat) (s : ByteArray) : Option RR := lQ s f (blk s 0) 0 []
def jX (f : Nat) (s : ByteArray) : RR := (oC f s).getD default
def SQ (f : Nat) (s : ByteArray) : T Out := .need (s.size <= 3000 /\ (oC f s).isSome = true) (.ret (.tup [dmA (jX f s).l, vI .i64 (jX f s).i, vI .i64 (jX f s).e], []))
def SH (f : Nat) : FC := ⟨Ew, false, false, fun al ol => match al, ol with
 | [x], [] => match rdS x with
   | some s => some ([vS s], [], SQ f s)
   | none => none
 | _, _ => none⟩
def Jz (s : ByteArray) : List SV := [vS s, .ptr 0 0, .nm 1]
def OJ (s : ByteArray) (x : LX) : List (Option Ob) := [some (pOb s x.a x.c 0), some (.row jU 4 x.acc.length (dmL x.acc))]
def Sw (s : ByteArray) (r : RR) : T OutC := .ite (r.e == 0) (.ret (.exit 0, [.nm 0], [some (.row jU 4 r.l.length (dmL r.l))])) (.ret (.ret, [.dt (.cell (.slice none 0 0)), vI .i64 r.i, vI .i64 r.e], []))
def PZ (s : ByteArray) (g : Nat) (x : LX) : T OutC := .need (x.f <= g /\ okS s x.a /\ okC x.c /\ x.acc.length <= x.c /\ (lQ s x.f x.a x.c x.acc).isSome = true) (Sw s (uq s x.f x.a x.c x.acc))
def H9 (g : Nat) : LF := ⟨6, ⟨[0, 5, 6], [6], [2, 3, 4]⟩, fun svs obl => match svs, obl with
 | [_, .ptr 0 0, .nm 1], some (.cells _ [s, a, c, _]) :: _ => match rdS s, rdI a, rdI c with
   | some s, some a, some c => some (Jz s, OJ s ⟨g, a, c, gG⟩, PZ s g ⟨g, a, c, gG⟩)
   | _, _, _ => none
 | _, _ => none⟩
def Rv (g : Nat) : List (Nat × Nat × FC) := [(4, 0, noF), (5, 1, bkF), (8, 1, xZ g), (7, 1, bkF), (12, 1, clF)]
noncomputable def O8 (g : Nat) : Env := fnE prog 46 0 (Rv g) [H9 g]
noncomputable def Df : Code := (jo 6 (bO yZ)).getD .skip
def Lm (s : ByteArray) (g : Nat) (a c : Int) (acc : List Dm) (Rn : List SV -> List (Option Ob) -> Prop) (Re : Ex -> List SV -> List (Option Ob) -> Prop) : Prop :=
(((decide (a < (↑s.size : Int)) = true) ->
 ((Rx.leL ([SV.ptr 0 0, SV.dt (Dt.cell (.int .i64 (1 : Int)))]) ([SV.ptr 0 0, SV.dt (Dt.cell (.int .i64 (1 : Int)))])) /\
  ((Rx.bf ([Ob.cells 101 [SV.dt (Dt.cell (.string s)), SV.dt (Dt.cell (.int .i64 a)), SV.dt (Dt.cell (.int .i64 c)), SV.dt (Dt.cell (.int .i64 (0 : Int)))]]) ([Ob.cells 101 [SV.dt (Dt.cell (.string s)), SV.dt (Dt.cell (.int .i64 a)), SV.dt (Dt.cell (.int .i64 c)), SV.dt (Dt.cell (.int .i64 (0 : Int)))]])) /\
   (((Rd.okS s a) /\
     ((Rd.okC c) /\
      ((Rd.okL (1 : Int)) /\
       ((Rd.iB s g (1 : Int) a c).isSome = true)))) /\
    (((((Rd.aX s g (1 : Int) a c).e != (0 : Int)) = true) ->
      Re (Rx.Ex.ret) ([SV.dt (Dt.cell (.slice Option.none (0 : Nat) (0 : Nat))), SV.dt (Dt.cell (.int .i64 (Rd.aX s g (1 : Int) a c).a)), SV.dt (Dt.cell (.int .i64 (Rd.aX s g (1 : Int) a c).e))]) ([])) /\
     ((((Rd.aX s g (1 : Int) a c).e != (0 : Int)) = false) ->
      (((acc.length + (1 : Nat)) * (56 : Nat) <= (140737488355328 : Nat)) /\
       ((Rx.leL ([SV.ptr 0 0]) ([SV.ptr 0 0])) /\
        ((Rx.bf ([Ob.cells 101 [SV.dt (Dt.cell (.string s)), SV.dt (Dt.cell (.int .i64 (Rd.aX s g (1 : Int) a c).a)), SV.dt (Dt.cell (.int .i64 (Rd.aX s g (1 : Int) a c).c)), SV.dt (Dt.cell (.int .i64 (Rd.aX s g (1 : Int) a c).e))]]) ([Ob.cells 101 [SV.dt (Dt.cell (.string s)), SV.dt (Dt.cell (.int .i64 (Rd.aX s g (1 : Int) a c).a)), SV.dt (Dt.cell (.int .i64 (Rd.aX s g (1 : Int) a c).c)), SV.dt (Dt.cell (.int .i64 (Rd.aX s g (1 : Int) a c).e))]])) /\
         ((Rd.okS s (Rd.aX s g (1 : Int) a c).a) /\
          Rn ([SV.dt (Dt.cell (.string s)), SV.ptr 0 0, SV.nm 1]) ([some (Ob.cells 101 [SV.dt (Dt.cell (.string s)), SV.dt (Dt.cell (.int .i64 (Rd.blk s (Rd.aX s g (1 : Int) a c).a))), SV.dt (Dt.cell (.int .i64 (Rd.aX s g (1 : Int) a c).c)), SV.dt (Dt.cell (.int .i64 (Rd.aX s g (1 : Int) a c).e))]), some (Ob.row 47 4 (acc.length + (1 : Nat)) (Rx.bP acc.length (Rd.dmL acc) (Rx.iK (4 : Nat) [Rx.Dt.cell (.int .i64 (Rd.aX s g (1 : Int) a c).d.k), Rx.Dt.cell (.int .i64 (Rd.aX s g (1 : Int) a c).d.n), Rx.Dt.cell (.string (Rd.aX s g (1 : Int) a c).d.s), Rx.Dt.arr (4 : Nat) (Rd.aX s g (1 : Int) a c).d.l.length (Rd.dmL (Rd.aX s g (1 : Int) a c).d.l)])))]))))))))))) /\
((decide (a < (↑s.size : Int)) = false) ->
 Re (Rx.Ex.exit (0 : Nat)) ([SV.nm 0]) ([some (Ob.row 47 4 (acc.length) (Rd.dmL acc))])))
def Sc (s : ByteArray) (g : Nat) (R : SV -> List (Option Ob) -> Prop) : Prop :=
(((decide ((↑s.size : Int) > (3000 : Int)) = true) ->
 (True /\
  R (SV.tup [SV.dt (Dt.cell (.slice Option.none (0 : Nat) (0 : Nat))), SV.dt (Dt.cell (.int .i64 (0 : Int))), SV.dt (Dt.cell (.int .i64 (1 : Int)))]) ([]))) /\
((decide ((↑s.size : Int) > (3000 : Int)) = false) ->
 ((Rx.leL ([SV.ptr 0 0]) ([SV.ptr 0 0])) /\
  ((Rx.bf ([Ob.cells 101 [SV.dt (Dt.cell (.string s)), SV.ki .i64 ((0 : Int)), SV.ki .i64 ((0 : Int)), SV.ki .i64 ((0 : Int))]]) ([Ob.cells 101 [SV.dt (Dt.cell (.string s)), SV.dt (Dt.cell (.int .i64 (0 : Int))), SV.dt (Dt.cell (.int .i64 (0 : Int))), SV.dt (Dt.cell (.int .i64 (0 : Int)))]])) /\
   ((Rd.okS s (0 : Int)) /\
    (((Rx.leS (SV.dt (Dt.cell (.string s))) (SV.dt (Dt.cell (.string s)))) /\
      ((Rx.leS (SV.ptr 0 0) (SV.ptr 0 0)) /\
       ((Rx.leS (SV.nm 1) (SV.nm 1)) /\
        True))) /\
     ((Rx.leOO ([some (Ob.cells 101 [SV.dt (Dt.cell (.string s)), SV.dt (Dt.cell (.int .i64 (Rd.blk s (0 : Int)))), SV.dt (Dt.cell (.int .i64 (0 : Int))), SV.dt (Dt.cell (.int .i64 (0 : Int)))]), some (Ob.row 47 4 ((0 : Nat)) (fun x x_1 => Rx.aV))]) ([some (Ob.cells 101 [SV.dt (Dt.cell (.string s)), SV.dt (Dt.cell (.int .i64 (Rd.blk s (0 : Int)))), SV.dt (Dt.cell (.int .i64 (0 : Int))), SV.dt (Dt.cell (.int .i64 (0 : Int)))]), some (Ob.row 47 4 (Rd.gG.length) (Rd.dmL Rd.gG))])) /\
      (((g <= g) /\
        ((Rd.okS s (Rd.blk s (0 : Int))) /\
         ((Rd.okC (0 : Int)) /\
          (((↑Rd.gG.length : Int) <= (0 : Int)) /\
           ((Rd.lQ s g (Rd.blk s (0 : Int)) (0 : Int) Rd.gG).isSome = true))))) /\
       (((((Rd.uq s g (Rd.blk s (0 : Int)) (0 : Int) Rd.gG).e == (0 : Int)) = true) ->
         ((Rx.leL ([SV.dt (Dt.arr ((4 : Nat)) ((Rd.uq s g (Rd.blk s (0 : Int)) (0 : Int) Rd.gG).l.length) (Rd.dmL (Rd.uq s g (Rd.blk s (0 : Int)) (0 : Int) Rd.gG).l))]) ([SV.dt (Dt.arr ((4 : Nat)) ((Rd.uq s g (Rd.blk s (0 : Int)) (0 : Int) Rd.gG).l.length) (Rd.dmL (Rd.uq s g (Rd.blk s (0 : Int)) (0 : Int) Rd.gG).l))])) /\
          ((Rx.bf ([]) ([])) /\
           (True /\
            R (SV.tup [SV.dt (Dt.arr ((4 : Nat)) ((Rd.uq s g (Rd.blk s (0 : Int)) (0 : Int) Rd.gG).l.length) (Rd.dmL (Rd.uq s g (Rd.blk s (0 : Int)) (0 : Int) Rd.gG).l)), SV.dt (Dt.cell (.int .i64 (0 : Int))), SV.dt (Dt.cell (.int .i64 (0 : Int)))]) ([]))))) /\
        ((((Rd.uq s g (Rd.blk s (0 : Int)) (0 : Int) Rd.gG).e == (0 : Int)) = false) ->
         (True /\
          R (SV.tup [SV.dt (Dt.cell (.slice Option.none (0 : Nat) (0 : Nat))), SV.dt (Dt.cell (.int .i64 (Rd.uq s g (Rd.blk s (0 : Int)) (0 : Int) Rd.gG).i)), SV.dt (Dt.cell (.int .i64 (Rd.uq s g (Rd.blk s (0 : Int)) (0 : Int) Rd.gG).e))]) ([]))))))))))))
theorem x9 (s : ByteArray) : ∀ (f : Nat) (a c : Int) (acc : List Dm) (r : RR), lQ s f a c acc = some r -> (r.e = 0 -> r.i = 0) /\ (r.e ≠ 0 -> r.l = [])
 | 0, _, _, _, _, h => by simp [lQ] at h
 | f + 1, a, c, acc, r, h => by
   rw [lQ] at h
   split at h
   · split at h
     · cases h
     · rename_i q _
       split at h
       · rename_i g; injection h with h; subst h; exact ⟨fun h => absurd h g, fun _ => rfl⟩
       · exact x9 s f _ _ _ _ h
   · injection h with h; subst h; exact ⟨fun _ => rfl, fun h => absurd rfl h⟩
theorem Fw {s : ByteArray} {f : Nat} {a c : Int} {acc : List Dm} {r : RR} (hr : lQ s f a c acc = some r) : uq s f a c acc = r := by
 unfold uq
 rw [hr]; rfl
theorem OC {f : Nat} {s : ByteArray} {r : RR} (hr : oC f s = some r) : jX f s = r := by
 unfold jX
 rw [hr]; rfl
theorem KJ (g : Nat) : ∀ x ∈ Rv g, x.2.2.Ok prog := all_cons NK (all_cons ED (all_cons (Lj g) (all_cons ED (all_cons UG all_nil))))
theorem E5 {g : Nat} (s : ByteArray) (x : LX) : Sound (O8 g) (.loop Df) (jM ((H9 g).live.h.zip (Jz s)) (OJ s x)) ((PZ s g x).map (OutC.st (H9 g).live)) := by
 refine qp mixed (ks := Rv g) (ls := [H9 g]) (c := Df) (nb := 0) (N := 46) (KJ g) (fP (by kernel_rfl)) (H9 g).live (fun _ : LX => Jz s) (fun x => OJ s x) (fun x => PZ s g x) (fun x => x.f)
  (Q := fun x => Lm s g x.a x.c x.acc) (fun x post hp => ?_) (fun a Rn Re => by kernel_rfl) x
 obtain ⟨f, a, c, acc⟩ := x
 obtain ⟨⟨hf, hs, hc, ha, hsome⟩, hp0⟩ := hp
 obtain ⟨R, hR⟩ := Option.isSome_iff_exists.1 hsome
 have hp : (Sw s (uq s f a c acc)).holds post := hp0
 clear hp0
 rw [Fw hR] at hp
 simp only at hf hs hc ha hR
 have hcl := hc.1
 have hcu := hc.2
 cases f with
 | zero => simp [lQ] at hR
 | succ f =>
 rw [lQ] at hR
 unfold Lm
 refine ⟨fun hlt => ?_, fun hlt => ?_⟩
 · rw [if_pos (of_decide_eq_true hlt)] at hR
   split at hR
   · cases hR
   · rename_i r hr
     have er := wX (g := g) (by omega : f <= g) hr
     obtain ⟨k1, k2, k3, k4⟩ := (xE s f).1 _ _ _ _ hr hs hc
     refine ⟨aK _, aR _, ⟨hs, hc, ⟨by omega, by omega⟩, by rw [jR (by omega : f <= g) hr]; rfl⟩, fun he => ?_, fun he => ⟨by show (acc.length + 1) * 56 <= 140737488355328; omega, aK _, aR _, by rw [er]; exact k1, ?_⟩⟩
     · rw [er] at he ⊢
       have he : r.e ≠ 0 := by simpa using he
       rw [if_pos he] at hR
       injection hR with hR
       rw [← hR] at hp
       exact l9.mk (hp.2 (by simpa using he)) (aK _) (aN _)
     · rw [er] at he ⊢
       have he : r.e = 0 := by simpa using he
       rw [if_neg (by simpa using he)] at hR
       have c1 := uF s r.a
       have c2 := vG s r.a k1.2.2
       refine ⟨⟨f, blk s r.a, r.c, acc ++ [r.d]⟩, Nat.lt_succ_self f, aK _, ?_, ⟨by simp only; omega, ⟨k1.1, by have := k1.2.1; simp only; omega, c2⟩, ⟨Int.le_trans hcl k3, k2 he⟩, by have := k4 he; simp; omega, by simp only; rw [hR]; rfl⟩, ?_⟩
       · rw [he]
         exact ⟨dL _, ⟨rfl, rfl, by simp, fun k hk j hj => F3 acc r.d k j hk hj⟩, trivial⟩
       · simp only
         rw [Fw hR]; exact hp
 · rw [if_neg (of_decide_eq_false hlt)] at hR
   injection hR with hR
   rw [← hR] at hp
   exact l9.mk (hp.1 rfl) (aK _) (aN _)
theorem Q5 {g : Nat} : I5 (O8 g) (H9 g) Df := by
 intro svs obl args obs out h
 unfold H9 at h
 simp only at h
 repeat' split at h
 all_goals first
  | (simp only [Option.some.injEq, Prod.mk.injEq] at h; obtain ⟨rfl, rfl, rfl⟩ := h; apply E5)
  | cases h
theorem LM {g : Nat} : (O8 g).Lok (bK (bO yZ)) := by
 have hl : bK (bO yZ) = [Df] := by kernel_rfl
 rw [hl]
 refine kZ fun f h c hc hr => ?_
 rw [List.mem_singleton] at hc h
 subst hc; subst h
 exact Q5
theorem FM (g : Nat) (s : ByteArray) : Ctr prog Ew [vS s] [] (SQ g s) := by
 refine jl mixed (N := 46) (fn := yZ) (c := bO yZ) (ks := Rv g) (ls := [H9 g]) (by kernel_rfl) (by kernel_rfl) (by kernel_rfl) (KJ g) yH LM (by kernel_rfl) (Q := Sc s g) (fun post hp => ?_) (fun R => by kernel_rfl)
 obtain ⟨⟨hs, hsome⟩, hp⟩ := hp
 have hp : post (.tup [dmA (jX g s).l, vI .i64 (jX g s).i, vI .i64 (jX g s).e], []) := hp
 obtain ⟨R, hR⟩ := Option.isSome_iff_exists.1 hsome
 rw [OC hR] at hp
 have hR' : lQ s g (blk s 0) 0 gG = some R := hR
 have eR := Fw hR'
 have b1 := uF s 0
 have b2 := vG s 0 (by omega)
 obtain ⟨k1, k2⟩ := x9 _ _ _ _ _ _ hR
 unfold Sc
 refine ⟨fun h => absurd (of_decide_eq_true h) (by omega), fun _ => ⟨aK _, ⟨⟨rfl, aM _, (mJ _ _ _).2 rfl, (mJ _ _ _).2 rfl, (mJ _ _ _).2 rfl, trivial⟩, trivial⟩, ⟨hs, by omega, by omega⟩, ⟨aM _, aM _, aM _, trivial⟩,
  ⟨dL _, ⟨rfl, rfl, rfl, fun k hk => absurd hk (by simp)⟩, trivial⟩, ⟨Nat.le_refl _, ⟨hs, by omega, b2⟩, ⟨by omega, by omega⟩, by simp [gG], by rw [hR']; rfl⟩, fun he => ⟨aK _, trivial, trivial, ?_⟩, fun he => ⟨trivial, ?_⟩⟩⟩
 · rw [eR] at he ⊢
   have he : R.e = 0 := by simpa using he
   refine uX hp ?_
   rw [he, k1 he]
   exact aM _
 · rw [eR] at he ⊢
   have he : R.e ≠ 0 := by simpa using he
   refine uX hp ?_
   rw [k2 he]
   simp only [R3, tO, xA, and_true]
   refine ⟨?_, aM _, aM _⟩
   unfold dmA
   rw [Fp]
   simp only [bX]
   exact ⟨rfl, rfl⟩
theorem Wn (g : Nat) : (SH g).Ok prog := by
 intro al ol args obs out h
 unfold SH at h
 simp only at h
 repeat' split at h
 all_goals first
  | (simp only [Option.some.injEq, Prod.mk.injEq] at h; obtain ⟨rfl, rfl, rfl⟩ := h; apply FM)
  | cases h
end Rd
