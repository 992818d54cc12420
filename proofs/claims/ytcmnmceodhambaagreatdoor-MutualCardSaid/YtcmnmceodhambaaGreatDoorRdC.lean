/- The reader's recursion. -/
import Derived.Test.YtcmnmceodhambaaGreatDoorRdB
set_option linter.unusedSimpArgs false
set_option linter.unusedVariables false
open Rx Go
namespace Rd
theorem PG : noF.Ok prog := by
 intro al ol args obs out h
 cases h
theorem MG {g : Nat} (hD : (Bb g).Ok prog) : ∀ x ∈ SQ g, x.2.2.Ok prog :=
 all_cons Ga (all_cons vH (all_cons vH (all_cons vH (all_cons vH (all_cons hD (all_cons PG (all_cons Ga (all_cons hD (all_cons VL all_nil)))))))))
theorem yH {s : ByteArray} {f g : Nat} {lv a c : Int} {r : PR} (h : f <= g) (hr : iF s f lv a c = some r) : aT s g lv a c = r := by
 unfold aT
 rw [jU h hr]; rfl
theorem Fj {s : ByteArray} {f : Nat} {lv a c : Int} {acc : List Dm} {r : PR} (hr : kI s f lv a c acc = some r) : kK s f lv a c acc = r := by
 unfold kK
 rw [hr]; rfl
theorem Fp {g : Nat} (hD : (Bb g).Ok prog) (s : ByteArray) (lv : Int) (x : LX) : Sound (PO g) (.loop GL) (jN ((G7 g).live.h.zip (JH lv)) (QU s x)) ((O8 s g lv x).map (OutC.st (G7 g).live)) := by
 refine qQ mixed (ks := SQ g) (ls := [G7 g]) (c := GL) (nb := 1) (N := 153) (MG hD) (fZ (by kernel_rfl)) (G7 g).live (fun _ : LX => JH lv) (fun x => QU s x) (fun x => O8 s g lv x) (fun x => x.f)
  (Q := fun x => Mk s g lv x.a x.c x.acc) (fun x post hp => ?_) (fun a Rn Re => by kernel_rfl) x
 obtain ⟨f, a, c, acc⟩ := x
 obtain ⟨⟨hf, hs, hc, ⟨hl1, hl2⟩, ha, hsome⟩, hp⟩ := hp
 have hp : post (.ret, [.ptr 1 0], [some (pOb s (kK s f lv a c acc).a (kK s f lv a c acc).c (kK s f lv a c acc).e),
  some (.cells jZ [vI .i64 4, vI .i64 0, vS noS, .nm 2]), some (.row jZ 4 (kK s f lv a c acc).d.l.length (dmL (kK s f lv a c acc).d.l))]) := hp
 obtain ⟨R, hR⟩ := Option.isSome_iff_exists.1 hsome
 have eR := Fj hR
 simp only at hf hs hc ha hR
 have b1 := wh s a
 have b2 := vU s a hs.2.2
 have hb : okS s (blk s a) := ⟨hs.1, by have := hs.2.1; omega, b2⟩
 cases f with
 | zero => simp [kI] at hR
 | succ f =>
 have call : ¬ (blk s a < s.size /\ aj s (blk s a) = 41) -> ∃ r, iF s f (lv + 1) (blk s a) c = some r /\ (if r.e ≠ 0 then R = ⟨.mk 4 0 noS acc, r.a, r.c, r.e⟩ else kI s f lv r.a r.c (acc ++ [r.d]) = some R) := fun h => by
  rw [kI, if_neg h] at hR
  split at hR
  · cases hR
  · rename_i r hr
    refine ⟨r, hr, ?_⟩
    split at hR
    · rename_i g; rw [if_pos g]; injection hR with hR; exact hR.symm
    · rename_i g; rw [if_neg g]; exact hR
 unfold Mk
 simp only [lo, hi]
 have part : ¬ (blk s a < s.size /\ aj s (blk s a) = 41) -> _ := fun h => call h
 refine ⟨aC _, aO _, hs, fun _ => ⟨fun hlt => ⟨⟨hb.2.1, of_decide_eq_true hlt⟩, fun h41 => ⟨⟨by have := hb.2.1; omega, by have := hs.1; omega⟩, ?_⟩, fun h41 => ?_⟩, fun hlt => ?_⟩, fun h => (by cases h)⟩
 · have hlt := of_decide_eq_true hlt
   have h41 : aj s (blk s a) = 41 := by simpa using h41
   rw [kI, if_pos ⟨hlt, h41⟩] at hR
   injection hR with hR
   rw [eR, ← hR] at hp
   exact mH.mk hp (aC _) (aI _)
 all_goals
  obtain ⟨r, hr, hRr⟩ := call (by first | (rintro ⟨_, h⟩; simp [h] at h41; done) | (rintro ⟨h, _⟩; simp [h] at hlt; done))
  have er := yH (g := g) (by omega : f <= g) hr
  obtain ⟨k1, k2, k3, k4⟩ := (yG s f).1 _ _ _ _ hr hb hc
  refine ⟨⟨by omega, by omega⟩, aC _, aO _, ⟨hb, hc, ⟨by omega, by omega⟩, by rw [jU (by omega : f <= g) hr]; rfl⟩, fun he => ?_, fun he => ⟨by have := hc.2; omega, ?_⟩⟩
  · rw [er] at he ⊢
    have he : r.e ≠ 0 := by simpa using he
    rw [if_pos he] at hRr
    rw [eR, hRr] at hp
    exact mH.mk hp (aC _) (aI _)
  · rw [er] at he ⊢
    have he : r.e = 0 := by simpa using he
    rw [if_neg (by simpa using he)] at hRr
    rw [eR] at hp
    refine ⟨⟨f, r.a, r.c, acc ++ [r.d]⟩, Nat.lt_succ_self f, aC _, ?_, ⟨by simp only; omega, k1, ⟨Int.le_trans hc.1 k3, k2 he⟩, ⟨hl1, hl2⟩, by have := k4 he; simp; omega, by simp only; rw [hRr]; rfl⟩, ?_⟩
    · rw [he]
      refine ⟨dN _, dN _, dN _, ⟨rfl, rfl, by simp, fun k hk j hj => Ja acc r.d k j hk hj⟩, trivial⟩
    · simp only
      have : post (.ret, [.ptr 1 0], [some (pOb s (kK s f lv r.a r.c (acc ++ [r.d])).a (kK s f lv r.a r.c (acc ++ [r.d])).c (kK s f lv r.a r.c (acc ++ [r.d])).e),
        some (.cells jZ [vI .i64 4, vI .i64 0, vS noS, .nm 2]), some (.row jZ 4 (kK s f lv r.a r.c (acc ++ [r.d])).d.l.length (dmL (kK s f lv r.a r.c (acc ++ [r.d])).d.l))]) := by
        rw [Fj hRr]; exact hp
      exact this
end Rd
set_option linter.unusedSimpArgs false
set_option linter.unusedVariables false
open Rx Go
namespace Rd
theorem TY {g : Nat} (hD : (Bb g).Ok prog) : J4 (PO g) (G7 g) GL := by
 intro svs obl args obs out h
 unfold G7 at h
 simp only at h
 repeat' split at h
 all_goals first
  | (simp only [Option.some.injEq, Prod.mk.injEq] at h; obtain ⟨rfl, rfl, rfl⟩ := h; apply Fp hD)
  | cases h
theorem Nw {g : Nat} (hD : (Bb g).Ok prog) : (PO g).Lok (bJ (bK uo)) := by
 have hl : bJ (bK uo) = [GL] := by kernel_rfl
 rw [hl]
 refine lI fun f h c hc hr => ?_
 rw [List.mem_singleton] at hc h
 subst hc; subst h
 exact TY hD
theorem P6 (d : Dm) : leS (.agg [vI .i64 4, .ki .i64 0, vS ⟨#[]⟩, .dt (.arr 4 2 (lT 4 [Dt.cell (.int .i64 3), .cell (.int .i64 0), .cell (.string nO), .cell (.slice none 0 0), .cell (.int .i64 d.k), .cell (.int .i64 d.n), .cell (.string d.s), .arr 4 d.l.length (dmL d.l)]))]) (dmS (.mk 4 0 noS [.mk 3 0 nO [], d])) := by
 simp only [dmS, dmA, Dm.k, Dm.n, Dm.s, Dm.l, Fe, tK, yQ, and_true]
 refine ⟨aH _, (ng _ _ _).2 rfl, aH _, ?_⟩
 rw [FJ, Rz]
 refine ⟨rfl, .inr ⟨rfl, fun k hk j hj => ?_⟩⟩
 rw [yL hj (by simp; omega)]
 match k, hk with
 | 0, _ =>
   match j, hj with
   | 0, _ => simp [dmL, dmT, bV]
   | 1, _ => simp [dmL, dmT, bV]
   | 2, _ => simp [dmL, dmT, bV]
   | 3, _ => simp [dmL, dmT, bV, isNil]
 | 1, _ =>
   have e : dmL [.mk 3 0 nO [], d] 1 j = dmT d j := by simp [dmL]
   rw [e, PZ d j hj]
   match j, hj with
   | 0, _ => exact cZ _
   | 1, _ => exact cZ _
   | 2, _ => exact cZ _
   | 3, _ => exact cZ _
theorem zH {g : Nat} (hD : (Bb g).Ok prog) (s : ByteArray) (lv a c : Int) : Ctr prog x9 [.ptr 0 0, vI .i64 lv] [pOb s a c 0] (Fu s (g + 1) lv a c) := by
 refine jv mixed (N := 153) (fn := uo) (c := bK uo) (ks := SQ g) (ls := [G7 g]) (by kernel_rfl) (by kernel_rfl) (by kernel_rfl) (MG hD) ⟨true, none⟩ (Nw hD) (by kernel_rfl) (Q := Rs s g lv a c) (fun post hp => ?_) (fun R => by kernel_rfl)
 obtain ⟨⟨hs, hc, hl, hsome⟩, hp⟩ := hp
 have hp : post (dmS (aT s (g + 1) lv a c).d, [some (pOb s (aT s (g + 1) lv a c).a (aT s (g + 1) lv a c).c (aT s (g + 1) lv a c).e)]) := hp
 obtain ⟨R, hR⟩ := Option.isSome_iff_exists.1 hsome
 rw [yH (Nat.le_refl _) hR] at hp
 have b1 := wh s a
 have b2 := vU s a hs.2.2
 have hb : okS s (blk s a) := ⟨hs.1, by have := hs.2.1; omega, b2⟩
 have hcl := hc.1
 have hcu := hc.2
 have hl1 := hl.1
 have hl2 := hl.2
 have hs1 := hs.1
 have hb0 := hb.2.1
 have leaf : ∀ {v : SV} {d : Dm} {a c e : Int}, R = ⟨d, a, c, e⟩ -> leS v (dmS d) -> Gives post v [some (pOb s a c e)] := fun h hv => by
  rw [h] at hp; exact l5 hp hv (aI _)
 rw [iF] at hR
 unfold Rs
 simp only [lo, hi]
 refine ⟨aC _, aO _, hs, fun h => (by cases h), fun _ => ⟨fun h => ⟨aC _, aO _, trivial, ?_⟩, fun h1 => ⟨⟨by omega, by omega⟩, fun h => ⟨aC _, aO _, trivial, ?_⟩, fun h2 =>
  ⟨fun h => ⟨aC _, aO _, trivial, ?_⟩, fun h3 => ?_⟩⟩⟩⟩
 · have h : blk s a = s.size := by simpa using h
   rw [if_pos h] at hR
   injection hR with hR
   exact leaf hR.symm (aH _)
 · have h1 : ¬ blk s a = s.size := by simpa using h1
   rw [if_neg h1, if_pos (of_decide_eq_true h)] at hR
   injection hR with hR
   exact leaf hR.symm (aH _)
 · have h1 : ¬ blk s a = s.size := by simpa using h1
   rw [if_neg h1, if_neg (of_decide_eq_false h2), if_pos (of_decide_eq_true h)] at hR
   injection hR with hR
   exact leaf hR.symm (aH _)
 have h1 : ¬ blk s a = s.size := by simpa using h1
 have h2 := of_decide_eq_false h2
 have h3 := of_decide_eq_false h3
 rw [if_neg h1, if_neg h2, if_neg h3] at hR
 have hb1 : okS s (blk s a + 1) := ⟨hs1, by omega, by omega⟩
 have hc1 : okC (c + 1) := ⟨by omega, by omega⟩
 refine ⟨⟨hb0, by omega⟩, fun h => ⟨aC _, aO _, trivial, ?_⟩, fun h41 => ?_⟩
 · have h : aj s (blk s a) = 41 := by simpa using h
   rw [if_pos h] at hR
   injection hR with hR
   exact leaf hR.symm (aH _)
 have h41 : ¬ aj s (blk s a) = 41 := by simpa using h41
 rw [if_neg h41] at hR
 refine ⟨fun h => ?_, fun h39 => ?_⟩
 · have h : aj s (blk s a) = 39 := by simpa using h
   rw [if_pos h] at hR
   obtain ⟨r, hr, hRr⟩ := Option.map_eq_some_iff.1 hR
   refine ⟨⟨by omega, by omega⟩, ⟨by omega, by omega⟩, aC _, aO _, ⟨hb1, hc1, ⟨by omega, by omega⟩, by rw [hr]; rfl⟩, trivial, ?_⟩
   rw [yH (Nat.le_refl _) hr]
   exact leaf hRr.symm (P6 r.d)
 have h39 : ¬ aj s (blk s a) = 39 := by simpa using h39
 rw [if_neg h39] at hR
 refine ⟨fun h => ?_, fun h40 => ?_⟩
 · have h : aj s (blk s a) = 40 := by simpa using h
   rw [if_pos h] at hR
   obtain ⟨k1, k2, k3, k4⟩ := (yG s g).2 _ _ _ _ _ hR hb1 hc1
   refine ⟨⟨by omega, by omega⟩, ⟨aH _, aH _, aH _, aH _, trivial⟩, ?_, ⟨Nat.le_refl _, hb1, hc1, ⟨by omega, by omega⟩, by simp [gJ]; omega, by
    show (kI s g lv (blk s a + 1) (c + 1) []).isSome = true
    rw [hR]; rfl⟩, trivial, ?_⟩
   · exact ⟨dN _, dN _, ⟨rfl, aH _, (ng _ _ _).2 rfl, aH _, aH _, trivial⟩, ⟨rfl, rfl, rfl, fun k hk => absurd hk (by simp)⟩, trivial⟩
   · have e : kK s g lv (blk s a + 1) (c + 1) gJ = R := Fj hR
     rw [e]
     refine leaf (d := .mk 4 0 noS R.d.l) (a := R.a) (c := R.c) (e := R.e) (by rw [← k4]) (aH _)
 · have h40 : ¬ aj s (blk s a) = 40 := by simpa using h40
   rw [if_neg h40] at hR
   injection hR with hR
   exact ⟨aC _, aO _, ⟨hb, hb0, Int.le_refl _⟩, trivial, leaf hR.symm (aH _)⟩
theorem Mh : ∀ f : Nat, (Bb f).Ok prog := by
 have key : ∀ f : Nat, (∀ (s : ByteArray) (lv a c : Int), Ctr prog x9 [.ptr 0 0, vI .i64 lv] [pOb s a c 0] (Fu s f lv a c)) -> (Bb f).Ok prog := by
  intro f hf al ol args obs out h
  unfold Bb at h
  simp only at h
  repeat' split at h
  all_goals first
   | (simp only [Option.some.injEq, Prod.mk.injEq] at h; obtain ⟨rfl, rfl, rfl⟩ := h; apply hf)
   | cases h
 intro f
 induction f with
 | zero => exact key 0 fun s lv a c => sS fun h => by obtain ⟨_, _, _, h⟩ := h; simp [iF] at h
 | succ f ih => exact key (f + 1) fun s lv a c => zH ih s lv a c
theorem Wy (s : ByteArray) (f : Nat) (lv a c : Int) : Ctr prog x9 [.ptr 0 0, vI .i64 lv] [pOb s a c 0] (Fu s f lv a c) := by
 cases f with
 | zero => exact sS fun h => by obtain ⟨_, _, _, h⟩ := h; simp [iF] at h
 | succ f => exact zH (Mh f) s lv a c
end Rd
set_option linter.unusedSimpArgs false
set_option linter.unusedVariables false
open Rx Go
namespace Rd
structure RR where
 l : List Dm
 i : Int
 e : Int
instance : Inhabited RR := ⟨⟨[], 0, 0⟩⟩
def lX (s : ByteArray) : Nat -> Int -> Int -> List Dm -> Option RR
 | 0, _, _, _ => none
 | f + 1, a, c, acc =>
   if a < s.size then match iF s f 1 a c with
     | none => none
     | some r => if r.e ≠ 0 then some ⟨[], r.a, r.e⟩ else lX s f (blk s r.a) r.c (acc ++ [r.d])
   else some ⟨acc, 0, 0⟩
def tF (s : ByteArray) (f : Nat) (a c : Int) (acc : List Dm) : RR := (lX s f a c acc).getD default
def uj (f : Nat) (s : ByteArray) : Option RR := lX s f (blk s 0) 0 []
def j4 (f : Nat) (s : ByteArray) : RR := (uj f s).getD default
def UH (f : Nat) (s : ByteArray) : T Out := .need (s.size <= 3000 /\ (uj f s).isSome = true) (.ret (.tup [dmA (j4 f s).l, vI .i64 (j4 f s).i, vI .i64 (j4 f s).e], []))
def Ui (f : Nat) : FC := ⟨Gd, false, false, fun al ol => match al, ol with
 | [x], [] => match rdS x with
   | some s => some ([vS s], [], UH f s)
   | none => none
 | _, _ => none⟩
def JK (s : ByteArray) : List SV := [vS s, .ptr 0 0, .nm 1]
def Qp (s : ByteArray) (x : LX) : List (Option Ob) := [some (pOb s x.a x.c 0), some (.row jZ 4 x.acc.length (dmL x.acc))]
def UF (s : ByteArray) (r : RR) : T OutC := .ite (r.e == 0) (.ret (.exit 0, [.nm 0], [some (.row jZ 4 r.l.length (dmL r.l))])) (.ret (.ret, [.dt (.cell (.slice none 0 0)), vI .i64 r.i, vI .i64 r.e], []))
def Qz (s : ByteArray) (g : Nat) (x : LX) : T OutC := .need (x.f <= g /\ okS s x.a /\ okC x.c /\ x.acc.length <= x.c /\ (lX s x.f x.a x.c x.acc).isSome = true) (UF s (tF s x.f x.a x.c x.acc))
def IB (g : Nat) : LF := ⟨6, ⟨[0, 5, 6], [6], [2, 3, 4]⟩, fun svs obl => match svs, obl with
 | [_, .ptr 0 0, .nm 1], some (.cells _ [s, a, c, _]) :: _ => match rdS s, rdI a, rdI c with
   | some s, some a, some c => some (JK s, Qp s ⟨g, a, c, gJ⟩, Qz s g ⟨g, a, c, gJ⟩)
   | _, _, _ => none
 | _, _ => none⟩
def Ud (g : Nat) : List (Nat × Nat × FC) := [(4, 0, noF), (5, 1, bkF), (8, 1, Bb g), (7, 1, bkF), (12, 1, clF)]
noncomputable def QE (g : Nat) : Env := fnE prog 46 0 (Ud g) [IB g]
noncomputable def Fb : Code := (jr 6 (bK zZ)).getD .skip
def MR (s : ByteArray) (g : Nat) (a c : Int) (acc : List Dm) (Rn : List SV -> List (Option Ob) -> Prop) (Re : Ex -> List SV -> List (Option Ob) -> Prop) : Prop :=
(((decide (a < (↑s.size : Int)) = true) ->
 ((Rx.leL ([SV.ptr 0 0, SV.dt (Dt.cell (.int .i64 (1 : Int)))]) ([SV.ptr 0 0, SV.dt (Dt.cell (.int .i64 (1 : Int)))])) /\
  ((Rx.aX ([Ob.cells 101 [SV.dt (Dt.cell (.string s)), SV.dt (Dt.cell (.int .i64 a)), SV.dt (Dt.cell (.int .i64 c)), SV.dt (Dt.cell (.int .i64 (0 : Int)))]]) ([Ob.cells 101 [SV.dt (Dt.cell (.string s)), SV.dt (Dt.cell (.int .i64 a)), SV.dt (Dt.cell (.int .i64 c)), SV.dt (Dt.cell (.int .i64 (0 : Int)))]])) /\
   (((Rd.okS s a) /\
     ((Rd.okC c) /\
      ((Rd.okL (1 : Int)) /\
       ((Rd.iF s g (1 : Int) a c).isSome = true)))) /\
    (((((Rd.aT s g (1 : Int) a c).e != (0 : Int)) = true) ->
      Re (Rx.Ex.ret) ([SV.dt (Dt.cell (.slice Option.none (0 : Nat) (0 : Nat))), SV.dt (Dt.cell (.int .i64 (Rd.aT s g (1 : Int) a c).a)), SV.dt (Dt.cell (.int .i64 (Rd.aT s g (1 : Int) a c).e))]) ([])) /\
     ((((Rd.aT s g (1 : Int) a c).e != (0 : Int)) = false) ->
      (((acc.length + (1 : Nat)) * (56 : Nat) <= (140737488355328 : Nat)) /\
       ((Rx.leL ([SV.ptr 0 0]) ([SV.ptr 0 0])) /\
        ((Rx.aX ([Ob.cells 101 [SV.dt (Dt.cell (.string s)), SV.dt (Dt.cell (.int .i64 (Rd.aT s g (1 : Int) a c).a)), SV.dt (Dt.cell (.int .i64 (Rd.aT s g (1 : Int) a c).c)), SV.dt (Dt.cell (.int .i64 (Rd.aT s g (1 : Int) a c).e))]]) ([Ob.cells 101 [SV.dt (Dt.cell (.string s)), SV.dt (Dt.cell (.int .i64 (Rd.aT s g (1 : Int) a c).a)), SV.dt (Dt.cell (.int .i64 (Rd.aT s g (1 : Int) a c).c)), SV.dt (Dt.cell (.int .i64 (Rd.aT s g (1 : Int) a c).e))]])) /\
         ((Rd.okS s (Rd.aT s g (1 : Int) a c).a) /\
          Rn ([SV.dt (Dt.cell (.string s)), SV.ptr 0 0, SV.nm 1]) ([some (Ob.cells 101 [SV.dt (Dt.cell (.string s)), SV.dt (Dt.cell (.int .i64 (Rd.blk s (Rd.aT s g (1 : Int) a c).a))), SV.dt (Dt.cell (.int .i64 (Rd.aT s g (1 : Int) a c).c)), SV.dt (Dt.cell (.int .i64 (Rd.aT s g (1 : Int) a c).e))]), some (Ob.row 47 4 (acc.length + (1 : Nat)) (Rx.d9 acc.length (Rd.dmL acc) (Rx.lT (4 : Nat) [Rx.Dt.cell (.int .i64 (Rd.aT s g (1 : Int) a c).d.k), Rx.Dt.cell (.int .i64 (Rd.aT s g (1 : Int) a c).d.n), Rx.Dt.cell (.string (Rd.aT s g (1 : Int) a c).d.s), Rx.Dt.arr (4 : Nat) (Rd.aT s g (1 : Int) a c).d.l.length (Rd.dmL (Rd.aT s g (1 : Int) a c).d.l)])))]))))))))))) /\
((decide (a < (↑s.size : Int)) = false) ->
 Re (Rx.Ex.exit (0 : Nat)) ([SV.nm 0]) ([some (Ob.row 47 4 (acc.length) (Rd.dmL acc))])))
def Uo (s : ByteArray) (g : Nat) (R : SV -> List (Option Ob) -> Prop) : Prop :=
(((decide ((↑s.size : Int) > (3000 : Int)) = true) ->
 (True /\
  R (SV.tup [SV.dt (Dt.cell (.slice Option.none (0 : Nat) (0 : Nat))), SV.dt (Dt.cell (.int .i64 (0 : Int))), SV.dt (Dt.cell (.int .i64 (1 : Int)))]) ([]))) /\
((decide ((↑s.size : Int) > (3000 : Int)) = false) ->
 ((Rx.leL ([SV.ptr 0 0]) ([SV.ptr 0 0])) /\
  ((Rx.aX ([Ob.cells 101 [SV.dt (Dt.cell (.string s)), SV.ki .i64 ((0 : Int)), SV.ki .i64 ((0 : Int)), SV.ki .i64 ((0 : Int))]]) ([Ob.cells 101 [SV.dt (Dt.cell (.string s)), SV.dt (Dt.cell (.int .i64 (0 : Int))), SV.dt (Dt.cell (.int .i64 (0 : Int))), SV.dt (Dt.cell (.int .i64 (0 : Int)))]])) /\
   ((Rd.okS s (0 : Int)) /\
    (((Rx.leS (SV.dt (Dt.cell (.string s))) (SV.dt (Dt.cell (.string s)))) /\
      ((Rx.leS (SV.ptr 0 0) (SV.ptr 0 0)) /\
       ((Rx.leS (SV.nm 1) (SV.nm 1)) /\
        True))) /\
     ((Rx.leOO ([some (Ob.cells 101 [SV.dt (Dt.cell (.string s)), SV.dt (Dt.cell (.int .i64 (Rd.blk s (0 : Int)))), SV.dt (Dt.cell (.int .i64 (0 : Int))), SV.dt (Dt.cell (.int .i64 (0 : Int)))]), some (Ob.row 47 4 ((0 : Nat)) (fun x x_1 => Rx.aR))]) ([some (Ob.cells 101 [SV.dt (Dt.cell (.string s)), SV.dt (Dt.cell (.int .i64 (Rd.blk s (0 : Int)))), SV.dt (Dt.cell (.int .i64 (0 : Int))), SV.dt (Dt.cell (.int .i64 (0 : Int)))]), some (Ob.row 47 4 (Rd.gJ.length) (Rd.dmL Rd.gJ))])) /\
      (((g <= g) /\
        ((Rd.okS s (Rd.blk s (0 : Int))) /\
         ((Rd.okC (0 : Int)) /\
          (((↑Rd.gJ.length : Int) <= (0 : Int)) /\
           ((Rd.lX s g (Rd.blk s (0 : Int)) (0 : Int) Rd.gJ).isSome = true))))) /\
       (((((Rd.tF s g (Rd.blk s (0 : Int)) (0 : Int) Rd.gJ).e == (0 : Int)) = true) ->
         ((Rx.leL ([SV.dt (Dt.arr ((4 : Nat)) ((Rd.tF s g (Rd.blk s (0 : Int)) (0 : Int) Rd.gJ).l.length) (Rd.dmL (Rd.tF s g (Rd.blk s (0 : Int)) (0 : Int) Rd.gJ).l))]) ([SV.dt (Dt.arr ((4 : Nat)) ((Rd.tF s g (Rd.blk s (0 : Int)) (0 : Int) Rd.gJ).l.length) (Rd.dmL (Rd.tF s g (Rd.blk s (0 : Int)) (0 : Int) Rd.gJ).l))])) /\
          ((Rx.aX ([]) ([])) /\
           (True /\
            R (SV.tup [SV.dt (Dt.arr ((4 : Nat)) ((Rd.tF s g (Rd.blk s (0 : Int)) (0 : Int) Rd.gJ).l.length) (Rd.dmL (Rd.tF s g (Rd.blk s (0 : Int)) (0 : Int) Rd.gJ).l)), SV.dt (Dt.cell (.int .i64 (0 : Int))), SV.dt (Dt.cell (.int .i64 (0 : Int)))]) ([]))))) /\
        ((((Rd.tF s g (Rd.blk s (0 : Int)) (0 : Int) Rd.gJ).e == (0 : Int)) = false) ->
         (True /\
          R (SV.tup [SV.dt (Dt.cell (.slice Option.none (0 : Nat) (0 : Nat))), SV.dt (Dt.cell (.int .i64 (Rd.tF s g (Rd.blk s (0 : Int)) (0 : Int) Rd.gJ).i)), SV.dt (Dt.cell (.int .i64 (Rd.tF s g (Rd.blk s (0 : Int)) (0 : Int) Rd.gJ).e))]) ([]))))))))))))
theorem Ak (s : ByteArray) : ∀ (f : Nat) (a c : Int) (acc : List Dm) (r : RR), lX s f a c acc = some r -> (r.e = 0 -> r.i = 0) /\ (r.e ≠ 0 -> r.l = [])
 | 0, _, _, _, _, h => by simp [lX] at h
 | f + 1, a, c, acc, r, h => by
   rw [lX] at h
   split at h
   · split at h
     · cases h
     · rename_i q _
       split at h
       · rename_i g; injection h with h; subst h; exact ⟨fun h => absurd h g, fun _ => rfl⟩
       · exact Ak s f _ _ _ _ h
   · injection h with h; subst h; exact ⟨fun _ => rfl, fun h => absurd rfl h⟩
theorem GK {s : ByteArray} {f : Nat} {a c : Int} {acc : List Dm} {r : RR} (hr : lX s f a c acc = some r) : tF s f a c acc = r := by
 unfold tF
 rw [hr]; rfl
theorem PS {f : Nat} {s : ByteArray} {r : RR} (hr : uj f s = some r) : j4 f s = r := by
 unfold j4
 rw [hr]; rfl
theorem LM (g : Nat) : ∀ x ∈ Ud g, x.2.2.Ok prog := all_cons PG (all_cons Ga (all_cons (Mh g) (all_cons Ga (all_cons VW all_nil))))
theorem Gt {g : Nat} (s : ByteArray) (x : LX) : Sound (QE g) (.loop Fb) (jN ((IB g).live.h.zip (JK s)) (Qp s x)) ((Qz s g x).map (OutC.st (IB g).live)) := by
 refine qQ mixed (ks := Ud g) (ls := [IB g]) (c := Fb) (nb := 0) (N := 46) (LM g) (fZ (by kernel_rfl)) (IB g).live (fun _ : LX => JK s) (fun x => Qp s x) (fun x => Qz s g x) (fun x => x.f)
  (Q := fun x => MR s g x.a x.c x.acc) (fun x post hp => ?_) (fun a Rn Re => by kernel_rfl) x
 obtain ⟨f, a, c, acc⟩ := x
 obtain ⟨⟨hf, hs, hc, ha, hsome⟩, hp0⟩ := hp
 obtain ⟨R, hR⟩ := Option.isSome_iff_exists.1 hsome
 have hp : (UF s (tF s f a c acc)).holds post := hp0
 clear hp0
 rw [GK hR] at hp
 simp only at hf hs hc ha hR
 have hcl := hc.1
 have hcu := hc.2
 cases f with
 | zero => simp [lX] at hR
 | succ f =>
 rw [lX] at hR
 unfold MR
 refine ⟨fun hlt => ?_, fun hlt => ?_⟩
 · rw [if_pos (of_decide_eq_true hlt)] at hR
   split at hR
   · cases hR
   · rename_i r hr
     have er := yH (g := g) (by omega : f <= g) hr
     obtain ⟨k1, k2, k3, k4⟩ := (yG s f).1 _ _ _ _ hr hs hc
     refine ⟨aC _, aO _, ⟨hs, hc, ⟨by omega, by omega⟩, by rw [jU (by omega : f <= g) hr]; rfl⟩, fun he => ?_, fun he => ⟨by show (acc.length + 1) * 56 <= 140737488355328; omega, aC _, aO _, by rw [er]; exact k1, ?_⟩⟩
     · rw [er] at he ⊢
       have he : r.e ≠ 0 := by simpa using he
       rw [if_pos he] at hR
       injection hR with hR
       rw [← hR] at hp
       exact mH.mk (hp.2 (by simpa using he)) (aC _) (aI _)
     · rw [er] at he ⊢
       have he : r.e = 0 := by simpa using he
       rw [if_neg (by simpa using he)] at hR
       have c1 := wh s r.a
       have c2 := vU s r.a k1.2.2
       refine ⟨⟨f, blk s r.a, r.c, acc ++ [r.d]⟩, Nat.lt_succ_self f, aC _, ?_, ⟨by simp only; omega, ⟨k1.1, by have := k1.2.1; simp only; omega, c2⟩, ⟨Int.le_trans hcl k3, k2 he⟩, by have := k4 he; simp; omega, by simp only; rw [hR]; rfl⟩, ?_⟩
       · rw [he]
         exact ⟨dN _, ⟨rfl, rfl, by simp, fun k hk j hj => Ja acc r.d k j hk hj⟩, trivial⟩
       · simp only
         rw [GK hR]; exact hp
 · rw [if_neg (of_decide_eq_false hlt)] at hR
   injection hR with hR
   rw [← hR] at hp
   exact mH.mk (hp.1 rfl) (aC _) (aI _)
theorem TK {g : Nat} : J4 (QE g) (IB g) Fb := by
 intro svs obl args obs out h
 unfold IB at h
 simp only at h
 repeat' split at h
 all_goals first
  | (simp only [Option.some.injEq, Prod.mk.injEq] at h; obtain ⟨rfl, rfl, rfl⟩ := h; apply Gt)
  | cases h
theorem Ng {g : Nat} : (QE g).Lok (bJ (bK zZ)) := by
 have hl : bJ (bK zZ) = [Fb] := by kernel_rfl
 rw [hl]
 refine lI fun f h c hc hr => ?_
 rw [List.mem_singleton] at hc h
 subst hc; subst h
 exact TK
theorem Hl (g : Nat) (s : ByteArray) : Ctr prog Gd [vS s] [] (UH g s) := by
 refine jv mixed (N := 46) (fn := zZ) (c := bK zZ) (ks := Ud g) (ls := [IB g]) (by kernel_rfl) (by kernel_rfl) (by kernel_rfl) (LM g) AV Ng (by kernel_rfl) (Q := Uo s g) (fun post hp => ?_) (fun R => by kernel_rfl)
 obtain ⟨⟨hs, hsome⟩, hp⟩ := hp
 have hp : post (.tup [dmA (j4 g s).l, vI .i64 (j4 g s).i, vI .i64 (j4 g s).e], []) := hp
 obtain ⟨R, hR⟩ := Option.isSome_iff_exists.1 hsome
 rw [PS hR] at hp
 have hR' : lX s g (blk s 0) 0 gJ = some R := hR
 have eR := GK hR'
 have b1 := wh s 0
 have b2 := vU s 0 (by omega)
 obtain ⟨k1, k2⟩ := Ak _ _ _ _ _ _ hR
 unfold Uo
 refine ⟨fun h => absurd (of_decide_eq_true h) (by omega), fun _ => ⟨aC _, ⟨⟨rfl, aH _, (ng _ _ _).2 rfl, (ng _ _ _).2 rfl, (ng _ _ _).2 rfl, trivial⟩, trivial⟩, ⟨hs, by omega, by omega⟩, ⟨aH _, aH _, aH _, trivial⟩,
  ⟨dN _, ⟨rfl, rfl, rfl, fun k hk => absurd hk (by simp)⟩, trivial⟩, ⟨Nat.le_refl _, ⟨hs, by omega, b2⟩, ⟨by omega, by omega⟩, by simp [gJ], by rw [hR']; rfl⟩, fun he => ⟨aC _, trivial, trivial, ?_⟩, fun he => ⟨trivial, ?_⟩⟩⟩
 · rw [eR] at he ⊢
   have he : R.e = 0 := by simpa using he
   refine wK hp ?_
   rw [he, k1 he]
   exact aH _
 · rw [eR] at he ⊢
   have he : R.e ≠ 0 := by simpa using he
   refine wK hp ?_
   rw [k2 he]
   simp only [Sm, tK, yQ, and_true]
   refine ⟨?_, aH _, aH _⟩
   unfold dmA
   rw [FJ]
   simp only [bV]
   exact ⟨rfl, rfl⟩
theorem Xu (g : Nat) : (Ui g).Ok prog := by
 intro al ol args obs out h
 unfold Ui at h
 simp only at h
 repeat' split at h
 all_goals first
  | (simp only [Option.some.injEq, Prod.mk.injEq] at h; obtain ⟨rfl, rfl, rfl⟩ := h; apply Hl)
  | cases h
end Rd
