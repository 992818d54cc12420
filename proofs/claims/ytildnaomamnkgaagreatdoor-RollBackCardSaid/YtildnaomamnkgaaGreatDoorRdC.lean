/- The reader's recursion. -/
import Derived.Test.YtildnaomamnkgaaGreatDoorRdB
set_option linter.unusedSimpArgs false
set_option linter.unusedVariables false
open Rx Go
namespace Rd
theorem Ro : noF.Ok prog := by
 intro al ol args obs out h
 cases h
theorem Ms {g : Nat} (hD : (AY g).Ok prog) : ∀ x ∈ Tp g, x.2.2.Ok prog :=
 all_cons Fg (all_cons vV (all_cons vV (all_cons vV (all_cons vV (all_cons hD (all_cons Ro (all_cons Fg (all_cons hD (all_cons UN all_nil)))))))))
theorem yU {s : ByteArray} {f g : Nat} {lv a c : Int} {r : PR} (h : f <= g) (hr : iG s f lv a c = some r) : aV s g lv a c = r := by
 unfold aV
 rw [jV h hr]; rfl
theorem Fy {s : ByteArray} {f : Nat} {lv a c : Int} {acc : List Dm} {r : PR} (hr : kD s f lv a c acc = some r) : kT s f lv a c acc = r := by
 unfold kT
 rw [hr]; rfl
theorem Ey {g : Nat} (hD : (AY g).Ok prog) (s : ByteArray) (lv : Int) (x : LX) : Sound (OM g) (.loop EF) (jN ((He g).live.h.zip (JR lv)) (Qa s x)) ((Qs s g lv x).map (OutC.st (He g).live)) := by
 refine rD mixed (ks := Tp g) (ls := [He g]) (c := EF) (nb := 1) (N := 153) (Ms hD) (fV (by kernel_rfl)) (He g).live (fun _ : LX => JR lv) (fun x => Qa s x) (fun x => Qs s g lv x) (fun x => x.f)
  (Q := fun x => LK s g lv x.a x.c x.acc) (fun x post hp => ?_) (fun a Rn Re => by kernel_rfl) x
 obtain ⟨f, a, c, acc⟩ := x
 obtain ⟨⟨hf, hs, hc, ⟨hl1, hl2⟩, ha, hsome⟩, hp⟩ := hp
 have hp : post (.ret, [.ptr 1 0], [some (pOb s (kT s f lv a c acc).a (kT s f lv a c acc).c (kT s f lv a c acc).e),
  some (.cells jY [vI .i64 4, vI .i64 0, vS noS, .nm 2]), some (.row jY 4 (kT s f lv a c acc).d.l.length (dmL (kT s f lv a c acc).d.l))]) := hp
 obtain ⟨R, hR⟩ := Option.isSome_iff_exists.1 hsome
 have eR := Fy hR
 simp only at hf hs hc ha hR
 have b1 := vM s a
 have b2 := uZ s a hs.2.2
 have hb : okS s (blk s a) := ⟨hs.1, by have := hs.2.1; omega, b2⟩
 cases f with
 | zero => simp [kD] at hR
 | succ f =>
 have call : ¬ (blk s a < s.size /\ ak s (blk s a) = 41) -> ∃ r, iG s f (lv + 1) (blk s a) c = some r /\ (if r.e ≠ 0 then R = ⟨.mk 4 0 noS acc, r.a, r.c, r.e⟩ else kD s f lv r.a r.c (acc ++ [r.d]) = some R) := fun h => by
  rw [kD, if_neg h] at hR
  split at hR
  · cases hR
  · rename_i r hr
    refine ⟨r, hr, ?_⟩
    split at hR
    · rename_i g; rw [if_pos g]; injection hR with hR; exact hR.symm
    · rename_i g; rw [if_neg g]; exact hR
 unfold LK
 simp only [lo, hi]
 have part : ¬ (blk s a < s.size /\ ak s (blk s a) = 41) -> _ := fun h => call h
 refine ⟨aF _, aP _, hs, fun _ => ⟨fun hlt => ⟨⟨hb.2.1, of_decide_eq_true hlt⟩, fun h41 => ⟨⟨by have := hb.2.1; omega, by have := hs.1; omega⟩, ?_⟩, fun h41 => ?_⟩, fun hlt => ?_⟩, fun h => (by cases h)⟩
 · have hlt := of_decide_eq_true hlt
   have h41 : ak s (blk s a) = 41 := by simpa using h41
   rw [kD, if_pos ⟨hlt, h41⟩] at hR
   injection hR with hR
   rw [eR, ← hR] at hp
   exact l9.mk hp (aF _) (aI _)
 all_goals
  obtain ⟨r, hr, hRr⟩ := call (by first | (rintro ⟨_, h⟩; simp [h] at h41; done) | (rintro ⟨h, _⟩; simp [h] at hlt; done))
  have er := yU (g := g) (by omega : f <= g) hr
  obtain ⟨k1, k2, k3, k4⟩ := (yj s f).1 _ _ _ _ hr hb hc
  refine ⟨⟨by omega, by omega⟩, aF _, aP _, ⟨hb, hc, ⟨by omega, by omega⟩, by rw [jV (by omega : f <= g) hr]; rfl⟩, fun he => ?_, fun he => ⟨by have := hc.2; omega, ?_⟩⟩
  · rw [er] at he ⊢
    have he : r.e ≠ 0 := by simpa using he
    rw [if_pos he] at hRr
    rw [eR, hRr] at hp
    exact l9.mk hp (aF _) (aI _)
  · rw [er] at he ⊢
    have he : r.e = 0 := by simpa using he
    rw [if_neg (by simpa using he)] at hRr
    rw [eR] at hp
    refine ⟨⟨f, r.a, r.c, acc ++ [r.d]⟩, Nat.lt_succ_self f, aF _, ?_, ⟨by simp only; omega, k1, ⟨Int.le_trans hc.1 k3, k2 he⟩, ⟨hl1, hl2⟩, by have := k4 he; simp; omega, by simp only; rw [hRr]; rfl⟩, ?_⟩
    · rw [he]
      refine ⟨dQ _, dQ _, dQ _, ⟨rfl, rfl, by simp, fun k hk j hj => GV acc r.d k j hk hj⟩, trivial⟩
    · simp only
      have : post (.ret, [.ptr 1 0], [some (pOb s (kT s f lv r.a r.c (acc ++ [r.d])).a (kT s f lv r.a r.c (acc ++ [r.d])).c (kT s f lv r.a r.c (acc ++ [r.d])).e),
        some (.cells jY [vI .i64 4, vI .i64 0, vS noS, .nm 2]), some (.row jY 4 (kT s f lv r.a r.c (acc ++ [r.d])).d.l.length (dmL (kT s f lv r.a r.c (acc ++ [r.d])).d.l))]) := by
        rw [Fy hRr]; exact hp
      exact this
end Rd
set_option linter.unusedSimpArgs false
set_option linter.unusedVariables false
open Rx Go
namespace Rd
theorem RD {g : Nat} (hD : (AY g).Ok prog) : J3 (OM g) (He g) EF := by
 intro svs obl args obs out h
 unfold He at h
 simp only at h
 repeat' split at h
 all_goals first
  | (simp only [Option.some.injEq, Prod.mk.injEq] at h; obtain ⟨rfl, rfl, rfl⟩ := h; apply Ey hD)
  | cases h
theorem M9 {g : Nat} (hD : (AY g).Ok prog) : (OM g).Lok (bL (bO uz)) := by
 have hl : bL (bO uz) = [EF] := by kernel_rfl
 rw [hl]
 refine kY fun f h c hc hr => ?_
 rw [List.mem_singleton] at hc h
 subst hc; subst h
 exact RD hD
theorem Pb (d : Dm) : leS (.agg [vI .i64 4, .ki .i64 0, vS ⟨#[]⟩, .dt (.arr 4 2 (jo 4 [Dt.cell (.int .i64 3), .cell (.int .i64 0), .cell (.string nk), .cell (.slice none 0 0), .cell (.int .i64 d.k), .cell (.int .i64 d.n), .cell (.string d.s), .arr 4 d.l.length (dmL d.l)]))]) (dmS (.mk 4 0 noS [.mk 3 0 nk [], d])) := by
 simp only [dmS, dmA, Dm.k, Dm.n, Dm.s, Dm.l, Gm, uY, yP, and_true]
 refine ⟨aH _, (nG _ _ _).2 rfl, aH _, ?_⟩
 rw [Fv, PO]
 refine ⟨rfl, .inr ⟨rfl, fun k hk j hj => ?_⟩⟩
 rw [yB hj (by simp; omega)]
 match k, hk with
 | 0, _ =>
   match j, hj with
   | 0, _ => simp [dmL, dmT, bX]
   | 1, _ => simp [dmL, dmT, bX]
   | 2, _ => simp [dmL, dmT, bX]
   | 3, _ => simp [dmL, dmT, bX, isNil]
 | 1, _ =>
   have e : dmL [.mk 3 0 nk [], d] 1 j = dmT d j := by simp [dmL]
   rw [e, Ph d j hj]
   match j, hj with
   | 0, _ => exact dz _
   | 1, _ => exact dz _
   | 2, _ => exact dz _
   | 3, _ => exact dz _
theorem zT {g : Nat} (hD : (AY g).Ok prog) (s : ByteArray) (lv a c : Int) : Ctr prog yI [.ptr 0 0, vI .i64 lv] [pOb s a c 0] (FL s (g + 1) lv a c) := by
 refine jq mixed (N := 153) (fn := uz) (c := bO uz) (ks := Tp g) (ls := [He g]) (by kernel_rfl) (by kernel_rfl) (by kernel_rfl) (Ms hD) ⟨true, none⟩ (M9 hD) (by kernel_rfl) (Q := QV s g lv a c) (fun post hp => ?_) (fun R => by kernel_rfl)
 obtain ⟨⟨hs, hc, hl, hsome⟩, hp⟩ := hp
 have hp : post (dmS (aV s (g + 1) lv a c).d, [some (pOb s (aV s (g + 1) lv a c).a (aV s (g + 1) lv a c).c (aV s (g + 1) lv a c).e)]) := hp
 obtain ⟨R, hR⟩ := Option.isSome_iff_exists.1 hsome
 rw [yU (Nat.le_refl _) hR] at hp
 have b1 := vM s a
 have b2 := uZ s a hs.2.2
 have hb : okS s (blk s a) := ⟨hs.1, by have := hs.2.1; omega, b2⟩
 have hcl := hc.1
 have hcu := hc.2
 have hl1 := hl.1
 have hl2 := hl.2
 have hs1 := hs.1
 have hb0 := hb.2.1
 have leaf : ∀ {v : SV} {d : Dm} {a c e : Int}, R = ⟨d, a, c, e⟩ -> leS v (dmS d) -> Gives post v [some (pOb s a c e)] := fun h hv => by
  rw [h] at hp; exact lY hp hv (aI _)
 rw [iG] at hR
 unfold QV
 simp only [lo, hi]
 refine ⟨aF _, aP _, hs, fun h => (by cases h), fun _ => ⟨fun h => ⟨aF _, aP _, trivial, ?_⟩, fun h1 => ⟨⟨by omega, by omega⟩, fun h => ⟨aF _, aP _, trivial, ?_⟩, fun h2 =>
  ⟨fun h => ⟨aF _, aP _, trivial, ?_⟩, fun h3 => ?_⟩⟩⟩⟩
 · have h : blk s a = s.size := by simpa using h
   rw [if_pos h] at hR
   injection hR with hR
   exact leaf hR.symm (aH _)
 · have h1 : ¬ blk s a = s.size := by simpa using h1
   rw [if_neg h1, if_pos (of_decide_eq_true h)] at hR
   injection hR with hR
   exact leaf hR.symm (aH _)
 · have h1 : ¬ blk s a = s.size := by simpa using h1
   rw [if_neg h1, if_neg (of_decide_eq_false h2), if_pos (of_decide_eq_true h)] at hR
   injection hR with hR
   exact leaf hR.symm (aH _)
 have h1 : ¬ blk s a = s.size := by simpa using h1
 have h2 := of_decide_eq_false h2
 have h3 := of_decide_eq_false h3
 rw [if_neg h1, if_neg h2, if_neg h3] at hR
 have hb1 : okS s (blk s a + 1) := ⟨hs1, by omega, by omega⟩
 have hc1 : okC (c + 1) := ⟨by omega, by omega⟩
 refine ⟨⟨hb0, by omega⟩, fun h => ⟨aF _, aP _, trivial, ?_⟩, fun h41 => ?_⟩
 · have h : ak s (blk s a) = 41 := by simpa using h
   rw [if_pos h] at hR
   injection hR with hR
   exact leaf hR.symm (aH _)
 have h41 : ¬ ak s (blk s a) = 41 := by simpa using h41
 rw [if_neg h41] at hR
 refine ⟨fun h => ?_, fun h39 => ?_⟩
 · have h : ak s (blk s a) = 39 := by simpa using h
   rw [if_pos h] at hR
   obtain ⟨r, hr, hRr⟩ := Option.map_eq_some_iff.1 hR
   refine ⟨⟨by omega, by omega⟩, ⟨by omega, by omega⟩, aF _, aP _, ⟨hb1, hc1, ⟨by omega, by omega⟩, by rw [hr]; rfl⟩, trivial, ?_⟩
   rw [yU (Nat.le_refl _) hr]
   exact leaf hRr.symm (Pb r.d)
 have h39 : ¬ ak s (blk s a) = 39 := by simpa using h39
 rw [if_neg h39] at hR
 refine ⟨fun h => ?_, fun h40 => ?_⟩
 · have h : ak s (blk s a) = 40 := by simpa using h
   rw [if_pos h] at hR
   obtain ⟨k1, k2, k3, k4⟩ := (yj s g).2 _ _ _ _ _ hR hb1 hc1
   refine ⟨⟨by omega, by omega⟩, ⟨aH _, aH _, aH _, aH _, trivial⟩, ?_, ⟨Nat.le_refl _, hb1, hc1, ⟨by omega, by omega⟩, by simp [gJ]; omega, by
    show (kD s g lv (blk s a + 1) (c + 1) []).isSome = true
    rw [hR]; rfl⟩, trivial, ?_⟩
   · exact ⟨dQ _, dQ _, ⟨rfl, aH _, (nG _ _ _).2 rfl, aH _, aH _, trivial⟩, ⟨rfl, rfl, rfl, fun k hk => absurd hk (by simp)⟩, trivial⟩
   · have e : kT s g lv (blk s a + 1) (c + 1) gJ = R := Fy hR
     rw [e]
     refine leaf (d := .mk 4 0 noS R.d.l) (a := R.a) (c := R.c) (e := R.e) (by rw [← k4]) (aH _)
 · have h40 : ¬ ak s (blk s a) = 40 := by simpa using h40
   rw [if_neg h40] at hR
   injection hR with hR
   exact ⟨aF _, aP _, ⟨hb, hb0, Int.le_refl _⟩, trivial, leaf hR.symm (aH _)⟩
theorem Lh : ∀ f : Nat, (AY f).Ok prog := by
 have key : ∀ f : Nat, (∀ (s : ByteArray) (lv a c : Int), Ctr prog yI [.ptr 0 0, vI .i64 lv] [pOb s a c 0] (FL s f lv a c)) -> (AY f).Ok prog := by
  intro f hf al ol args obs out h
  unfold AY at h
  simp only at h
  repeat' split at h
  all_goals first
   | (simp only [Option.some.injEq, Prod.mk.injEq] at h; obtain ⟨rfl, rfl, rfl⟩ := h; apply hf)
   | cases h
 intro f
 induction f with
 | zero => exact key 0 fun s lv a c => uJ fun h => by obtain ⟨_, _, _, h⟩ := h; simp [iG] at h
 | succ f ih => exact key (f + 1) fun s lv a c => zT ih s lv a c
theorem Wt (s : ByteArray) (f : Nat) (lv a c : Int) : Ctr prog yI [.ptr 0 0, vI .i64 lv] [pOb s a c 0] (FL s f lv a c) := by
 cases f with
 | zero => exact uJ fun h => by obtain ⟨_, _, _, h⟩ := h; simp [iG] at h
 | succ f => exact zT (Lh f) s lv a c
end Rd
set_option linter.unusedSimpArgs false
set_option linter.unusedVariables false
open Rx Go
namespace Rd
structure RR where
 l : List Dm
 i : Int
 e : Int
instance : Inhabited RR := ⟨⟨[], 0, 0⟩⟩
def lZ (s : ByteArray) : Nat -> Int -> Int -> List Dm -> Option RR
 | 0, _, _, _ => none
 | f + 1, a, c, acc =>
   if a < s.size then match iG s f 1 a c with
     | none => none
     | some r => if r.e ≠ 0 then some ⟨[], r.a, r.e⟩ else lZ s f (blk s r.a) r.c (acc ++ [r.d])
   else some ⟨acc, 0, 0⟩
def um (s : ByteArray) (f : Nat) (a c : Int) (acc : List Dm) : RR := (lZ s f a c acc).getD default
def tH (f : Nat) (s : ByteArray) : Option RR := lZ s f (blk s 0) 0 []
def kg (f : Nat) (s : ByteArray) : RR := (tH f s).getD default
def UC (f : Nat) (s : ByteArray) : T Out := .need (s.size <= 3000 /\ (tH f s).isSome = true) (.ret (.tup [dmA (kg f s).l, vI .i64 (kg f s).i, vI .i64 (kg f s).e], []))
def Un (f : Nat) : FC := ⟨EW, false, false, fun al ol => match al, ol with
 | [x], [] => match rdS x with
   | some s => some ([vS s], [], UC f s)
   | none => none
 | _, _ => none⟩
def JD (s : ByteArray) : List SV := [vS s, .ptr 0 0, .nm 1]
def Pf (s : ByteArray) (x : LX) : List (Option Ob) := [some (pOb s x.a x.c 0), some (.row jY 4 x.acc.length (dmL x.acc))]
def Uh (s : ByteArray) (r : RR) : T OutC := .ite (r.e == 0) (.ret (.exit 0, [.nm 0], [some (.row jY 4 r.l.length (dmL r.l))])) (.ret (.ret, [.dt (.cell (.slice none 0 0)), vI .i64 r.i, vI .i64 r.e], []))
def Oq (s : ByteArray) (g : Nat) (x : LX) : T OutC := .need (x.f <= g /\ okS s x.a /\ okC x.c /\ x.acc.length <= x.c /\ (lZ s x.f x.a x.c x.acc).isSome = true) (Uh s (um s x.f x.a x.c x.acc))
def Io (g : Nat) : LF := ⟨6, ⟨[0, 5, 6], [6], [2, 3, 4]⟩, fun svs obl => match svs, obl with
 | [_, .ptr 0 0, .nm 1], some (.cells _ [s, a, c, _]) :: _ => match rdS s, rdI a, rdI c with
   | some s, some a, some c => some (JD s, Pf s ⟨g, a, c, gJ⟩, Oq s g ⟨g, a, c, gJ⟩)
   | _, _, _ => none
 | _, _ => none⟩
def SK (g : Nat) : List (Nat × Nat × FC) := [(4, 0, noF), (5, 1, bkF), (8, 1, AY g), (7, 1, bkF), (12, 1, clF)]
noncomputable def Ry (g : Nat) : Env := fnE prog 46 0 (SK g) [Io g]
noncomputable def EA : Code := (jl 6 (bO zN)).getD .skip
def Mh (s : ByteArray) (g : Nat) (a c : Int) (acc : List Dm) (Rn : List SV -> List (Option Ob) -> Prop) (Re : Ex -> List SV -> List (Option Ob) -> Prop) : Prop :=
(((decide (a < (↑s.size : Int)) = true) ->
 ((Rx.leL ([SV.ptr 0 0, SV.dt (Dt.cell (.int .i64 (1 : Int)))]) ([SV.ptr 0 0, SV.dt (Dt.cell (.int .i64 (1 : Int)))])) /\
  ((Rx.aY ([Ob.cells 113 [SV.dt (Dt.cell (.string s)), SV.dt (Dt.cell (.int .i64 a)), SV.dt (Dt.cell (.int .i64 c)), SV.dt (Dt.cell (.int .i64 (0 : Int)))]]) ([Ob.cells 113 [SV.dt (Dt.cell (.string s)), SV.dt (Dt.cell (.int .i64 a)), SV.dt (Dt.cell (.int .i64 c)), SV.dt (Dt.cell (.int .i64 (0 : Int)))]])) /\
   (((Rd.okS s a) /\
     ((Rd.okC c) /\
      ((Rd.okL (1 : Int)) /\
       ((Rd.iG s g (1 : Int) a c).isSome = true)))) /\
    (((((Rd.aV s g (1 : Int) a c).e != (0 : Int)) = true) ->
      Re (Rx.Ex.ret) ([SV.dt (Dt.cell (.slice Option.none (0 : Nat) (0 : Nat))), SV.dt (Dt.cell (.int .i64 (Rd.aV s g (1 : Int) a c).a)), SV.dt (Dt.cell (.int .i64 (Rd.aV s g (1 : Int) a c).e))]) ([])) /\
     ((((Rd.aV s g (1 : Int) a c).e != (0 : Int)) = false) ->
      (((acc.length + (1 : Nat)) * (56 : Nat) <= (140737488355328 : Nat)) /\
       ((Rx.leL ([SV.ptr 0 0]) ([SV.ptr 0 0])) /\
        ((Rx.aY ([Ob.cells 113 [SV.dt (Dt.cell (.string s)), SV.dt (Dt.cell (.int .i64 (Rd.aV s g (1 : Int) a c).a)), SV.dt (Dt.cell (.int .i64 (Rd.aV s g (1 : Int) a c).c)), SV.dt (Dt.cell (.int .i64 (Rd.aV s g (1 : Int) a c).e))]]) ([Ob.cells 113 [SV.dt (Dt.cell (.string s)), SV.dt (Dt.cell (.int .i64 (Rd.aV s g (1 : Int) a c).a)), SV.dt (Dt.cell (.int .i64 (Rd.aV s g (1 : Int) a c).c)), SV.dt (Dt.cell (.int .i64 (Rd.aV s g (1 : Int) a c).e))]])) /\
         ((Rd.okS s (Rd.aV s g (1 : Int) a c).a) /\
          Rn ([SV.dt (Dt.cell (.string s)), SV.ptr 0 0, SV.nm 1]) ([some (Ob.cells 113 [SV.dt (Dt.cell (.string s)), SV.dt (Dt.cell (.int .i64 (Rd.blk s (Rd.aV s g (1 : Int) a c).a))), SV.dt (Dt.cell (.int .i64 (Rd.aV s g (1 : Int) a c).c)), SV.dt (Dt.cell (.int .i64 (Rd.aV s g (1 : Int) a c).e))]), some (Ob.row 49 4 (acc.length + (1 : Nat)) (Rx.dU acc.length (Rd.dmL acc) (Rx.jo (4 : Nat) [Rx.Dt.cell (.int .i64 (Rd.aV s g (1 : Int) a c).d.k), Rx.Dt.cell (.int .i64 (Rd.aV s g (1 : Int) a c).d.n), Rx.Dt.cell (.string (Rd.aV s g (1 : Int) a c).d.s), Rx.Dt.arr (4 : Nat) (Rd.aV s g (1 : Int) a c).d.l.length (Rd.dmL (Rd.aV s g (1 : Int) a c).d.l)])))]))))))))))) /\
((decide (a < (↑s.size : Int)) = false) ->
 Re (Rx.Ex.exit (0 : Nat)) ([SV.nm 0]) ([some (Ob.row 49 4 (acc.length) (Rd.dmL acc))])))
def Ut (s : ByteArray) (g : Nat) (R : SV -> List (Option Ob) -> Prop) : Prop :=
(((decide ((↑s.size : Int) > (3000 : Int)) = true) ->
 (True /\
  R (SV.tup [SV.dt (Dt.cell (.slice Option.none (0 : Nat) (0 : Nat))), SV.dt (Dt.cell (.int .i64 (0 : Int))), SV.dt (Dt.cell (.int .i64 (1 : Int)))]) ([]))) /\
((decide ((↑s.size : Int) > (3000 : Int)) = false) ->
 ((Rx.leL ([SV.ptr 0 0]) ([SV.ptr 0 0])) /\
  ((Rx.aY ([Ob.cells 113 [SV.dt (Dt.cell (.string s)), SV.ki .i64 ((0 : Int)), SV.ki .i64 ((0 : Int)), SV.ki .i64 ((0 : Int))]]) ([Ob.cells 113 [SV.dt (Dt.cell (.string s)), SV.dt (Dt.cell (.int .i64 (0 : Int))), SV.dt (Dt.cell (.int .i64 (0 : Int))), SV.dt (Dt.cell (.int .i64 (0 : Int)))]])) /\
   ((Rd.okS s (0 : Int)) /\
    (((Rx.leS (SV.dt (Dt.cell (.string s))) (SV.dt (Dt.cell (.string s)))) /\
      ((Rx.leS (SV.ptr 0 0) (SV.ptr 0 0)) /\
       ((Rx.leS (SV.nm 1) (SV.nm 1)) /\
        True))) /\
     ((Rx.leOO ([some (Ob.cells 113 [SV.dt (Dt.cell (.string s)), SV.dt (Dt.cell (.int .i64 (Rd.blk s (0 : Int)))), SV.dt (Dt.cell (.int .i64 (0 : Int))), SV.dt (Dt.cell (.int .i64 (0 : Int)))]), some (Ob.row 49 4 ((0 : Nat)) (fun x x_1 => Rx.aR))]) ([some (Ob.cells 113 [SV.dt (Dt.cell (.string s)), SV.dt (Dt.cell (.int .i64 (Rd.blk s (0 : Int)))), SV.dt (Dt.cell (.int .i64 (0 : Int))), SV.dt (Dt.cell (.int .i64 (0 : Int)))]), some (Ob.row 49 4 (Rd.gJ.length) (Rd.dmL Rd.gJ))])) /\
      (((g <= g) /\
        ((Rd.okS s (Rd.blk s (0 : Int))) /\
         ((Rd.okC (0 : Int)) /\
          (((↑Rd.gJ.length : Int) <= (0 : Int)) /\
           ((Rd.lZ s g (Rd.blk s (0 : Int)) (0 : Int) Rd.gJ).isSome = true))))) /\
       (((((Rd.um s g (Rd.blk s (0 : Int)) (0 : Int) Rd.gJ).e == (0 : Int)) = true) ->
         ((Rx.leL ([SV.dt (Dt.arr ((4 : Nat)) ((Rd.um s g (Rd.blk s (0 : Int)) (0 : Int) Rd.gJ).l.length) (Rd.dmL (Rd.um s g (Rd.blk s (0 : Int)) (0 : Int) Rd.gJ).l))]) ([SV.dt (Dt.arr ((4 : Nat)) ((Rd.um s g (Rd.blk s (0 : Int)) (0 : Int) Rd.gJ).l.length) (Rd.dmL (Rd.um s g (Rd.blk s (0 : Int)) (0 : Int) Rd.gJ).l))])) /\
          ((Rx.aY ([]) ([])) /\
           (True /\
            R (SV.tup [SV.dt (Dt.arr ((4 : Nat)) ((Rd.um s g (Rd.blk s (0 : Int)) (0 : Int) Rd.gJ).l.length) (Rd.dmL (Rd.um s g (Rd.blk s (0 : Int)) (0 : Int) Rd.gJ).l)), SV.dt (Dt.cell (.int .i64 (0 : Int))), SV.dt (Dt.cell (.int .i64 (0 : Int)))]) ([]))))) /\
        ((((Rd.um s g (Rd.blk s (0 : Int)) (0 : Int) Rd.gJ).e == (0 : Int)) = false) ->
         (True /\
          R (SV.tup [SV.dt (Dt.cell (.slice Option.none (0 : Nat) (0 : Nat))), SV.dt (Dt.cell (.int .i64 (Rd.um s g (Rd.blk s (0 : Int)) (0 : Int) Rd.gJ).i)), SV.dt (Dt.cell (.int .i64 (Rd.um s g (Rd.blk s (0 : Int)) (0 : Int) Rd.gJ).e))]) ([]))))))))))))
theorem Am (s : ByteArray) : ∀ (f : Nat) (a c : Int) (acc : List Dm) (r : RR), lZ s f a c acc = some r -> (r.e = 0 -> r.i = 0) /\ (r.e ≠ 0 -> r.l = [])
 | 0, _, _, _, _, h => by simp [lZ] at h
 | f + 1, a, c, acc, r, h => by
   rw [lZ] at h
   split at h
   · split at h
     · cases h
     · rename_i q _
       split at h
       · rename_i g; injection h with h; subst h; exact ⟨fun h => absurd h g, fun _ => rfl⟩
       · exact Am s f _ _ _ _ h
   · injection h with h; subst h; exact ⟨fun _ => rfl, fun h => absurd rfl h⟩
theorem Er {s : ByteArray} {f : Nat} {a c : Int} {acc : List Dm} {r : RR} (hr : lZ s f a c acc = some r) : um s f a c acc = r := by
 unfold um
 rw [hr]; rfl
theorem Rk {f : Nat} {s : ByteArray} {r : RR} (hr : tH f s = some r) : kg f s = r := by
 unfold kg
 rw [hr]; rfl
theorem MH (g : Nat) : ∀ x ∈ SK g, x.2.2.Ok prog := all_cons Ro (all_cons Fg (all_cons (Lh g) (all_cons Fg (all_cons Vb all_nil))))
theorem Gs {g : Nat} (s : ByteArray) (x : LX) : Sound (Ry g) (.loop EA) (jN ((Io g).live.h.zip (JD s)) (Pf s x)) ((Oq s g x).map (OutC.st (Io g).live)) := by
 refine rD mixed (ks := SK g) (ls := [Io g]) (c := EA) (nb := 0) (N := 46) (MH g) (fV (by kernel_rfl)) (Io g).live (fun _ : LX => JD s) (fun x => Pf s x) (fun x => Oq s g x) (fun x => x.f)
  (Q := fun x => Mh s g x.a x.c x.acc) (fun x post hp => ?_) (fun a Rn Re => by kernel_rfl) x
 obtain ⟨f, a, c, acc⟩ := x
 obtain ⟨⟨hf, hs, hc, ha, hsome⟩, hp0⟩ := hp
 obtain ⟨R, hR⟩ := Option.isSome_iff_exists.1 hsome
 have hp : (Uh s (um s f a c acc)).holds post := hp0
 clear hp0
 rw [Er hR] at hp
 simp only at hf hs hc ha hR
 have hcl := hc.1
 have hcu := hc.2
 cases f with
 | zero => simp [lZ] at hR
 | succ f =>
 rw [lZ] at hR
 unfold Mh
 refine ⟨fun hlt => ?_, fun hlt => ?_⟩
 · rw [if_pos (of_decide_eq_true hlt)] at hR
   split at hR
   · cases hR
   · rename_i r hr
     have er := yU (g := g) (by omega : f <= g) hr
     obtain ⟨k1, k2, k3, k4⟩ := (yj s f).1 _ _ _ _ hr hs hc
     refine ⟨aF _, aP _, ⟨hs, hc, ⟨by omega, by omega⟩, by rw [jV (by omega : f <= g) hr]; rfl⟩, fun he => ?_, fun he => ⟨by show (acc.length + 1) * 56 <= 140737488355328; omega, aF _, aP _, by rw [er]; exact k1, ?_⟩⟩
     · rw [er] at he ⊢
       have he : r.e ≠ 0 := by simpa using he
       rw [if_pos he] at hR
       injection hR with hR
       rw [← hR] at hp
       exact l9.mk (hp.2 (by simpa using he)) (aF _) (aI _)
     · rw [er] at he ⊢
       have he : r.e = 0 := by simpa using he
       rw [if_neg (by simpa using he)] at hR
       have c1 := vM s r.a
       have c2 := uZ s r.a k1.2.2
       refine ⟨⟨f, blk s r.a, r.c, acc ++ [r.d]⟩, Nat.lt_succ_self f, aF _, ?_, ⟨by simp only; omega, ⟨k1.1, by have := k1.2.1; simp only; omega, c2⟩, ⟨Int.le_trans hcl k3, k2 he⟩, by have := k4 he; simp; omega, by simp only; rw [hR]; rfl⟩, ?_⟩
       · rw [he]
         exact ⟨dQ _, ⟨rfl, rfl, by simp, fun k hk j hj => GV acc r.d k j hk hj⟩, trivial⟩
       · simp only
         rw [Er hR]; exact hp
 · rw [if_neg (of_decide_eq_false hlt)] at hR
   injection hR with hR
   rw [← hR] at hp
   exact l9.mk (hp.1 rfl) (aF _) (aI _)
theorem Sn {g : Nat} : J3 (Ry g) (Io g) EA := by
 intro svs obl args obs out h
 unfold Io at h
 simp only at h
 repeat' split at h
 all_goals first
  | (simp only [Option.some.injEq, Prod.mk.injEq] at h; obtain ⟨rfl, rfl, rfl⟩ := h; apply Gs)
  | cases h
theorem Ni {g : Nat} : (Ry g).Lok (bL (bO zN)) := by
 have hl : bL (bO zN) = [EA] := by kernel_rfl
 rw [hl]
 refine kY fun f h c hc hr => ?_
 rw [List.mem_singleton] at hc h
 subst hc; subst h
 exact Sn
theorem Js (g : Nat) (s : ByteArray) : Ctr prog EW [vS s] [] (UC g s) := by
 refine jq mixed (N := 46) (fn := zN) (c := bO zN) (ks := SK g) (ls := [Io g]) (by kernel_rfl) (by kernel_rfl) (by kernel_rfl) (MH g) zM Ni (by kernel_rfl) (Q := Ut s g) (fun post hp => ?_) (fun R => by kernel_rfl)
 obtain ⟨⟨hs, hsome⟩, hp⟩ := hp
 have hp : post (.tup [dmA (kg g s).l, vI .i64 (kg g s).i, vI .i64 (kg g s).e], []) := hp
 obtain ⟨R, hR⟩ := Option.isSome_iff_exists.1 hsome
 rw [Rk hR] at hp
 have hR' : lZ s g (blk s 0) 0 gJ = some R := hR
 have eR := Er hR'
 have b1 := vM s 0
 have b2 := uZ s 0 (by omega)
 obtain ⟨k1, k2⟩ := Am _ _ _ _ _ _ hR
 unfold Ut
 refine ⟨fun h => absurd (of_decide_eq_true h) (by omega), fun _ => ⟨aF _, ⟨⟨rfl, aH _, (nG _ _ _).2 rfl, (nG _ _ _).2 rfl, (nG _ _ _).2 rfl, trivial⟩, trivial⟩, ⟨hs, by omega, by omega⟩, ⟨aH _, aH _, aH _, trivial⟩,
  ⟨dQ _, ⟨rfl, rfl, rfl, fun k hk => absurd hk (by simp)⟩, trivial⟩, ⟨Nat.le_refl _, ⟨hs, by omega, b2⟩, ⟨by omega, by omega⟩, by simp [gJ], by rw [hR']; rfl⟩, fun he => ⟨aF _, trivial, trivial, ?_⟩, fun he => ⟨trivial, ?_⟩⟩⟩
 · rw [eR] at he ⊢
   have he : R.e = 0 := by simpa using he
   refine wB hp ?_
   rw [he, k1 he]
   exact aH _
 · rw [eR] at he ⊢
   have he : R.e ≠ 0 := by simpa using he
   refine wB hp ?_
   rw [k2 he]
   simp only [Ti, uY, yP, and_true]
   refine ⟨?_, aH _, aH _⟩
   unfold dmA
   rw [Fv]
   simp only [bX]
   exact ⟨rfl, rfl⟩
theorem Xr (g : Nat) : (Un g).Ok prog := by
 intro al ol args obs out h
 unfold Un at h
 simp only at h
 repeat' split at h
 all_goals first
  | (simp only [Option.some.injEq, Prod.mk.injEq] at h; obtain ⟨rfl, rfl, rfl⟩ := h; apply Js)
  | cases h
end Rd
