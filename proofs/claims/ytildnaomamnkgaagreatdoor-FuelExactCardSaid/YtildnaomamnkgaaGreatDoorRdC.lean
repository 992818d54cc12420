/- The reader's recursion. -/
import Derived.Test.YtildnaomamnkgaaGreatDoorRdB
set_option linter.unusedSimpArgs false
set_option linter.unusedVariables false
open Rx Go
namespace Rd
theorem Rf : noF.Ok prog := by
 intro al ol args obs out h
 cases h
theorem Lj {g : Nat} (hD : (zM g).Ok prog) : ∀ x ∈ Sd g, x.2.2.Ok prog :=
 all_cons Fg (all_cons vW (all_cons vW (all_cons vW (all_cons vW (all_cons hD (all_cons Rf (all_cons Fg (all_cons hD (all_cons VF all_nil)))))))))
theorem yR {s : ByteArray} {f g : Nat} {lv a c : Int} {r : PR} (h : f <= g) (hr : iF s f lv a c = some r) : aT s g lv a c = r := by
 unfold aT
 rw [jS h hr]; rfl
theorem F9 {s : ByteArray} {f : Nat} {lv a c : Int} {acc : List Dm} {r : PR} (hr : kK s f lv a c acc = some r) : jV s f lv a c acc = r := by
 unfold jV
 rw [hr]; rfl
theorem ER {g : Nat} (hD : (zM g).Ok prog) (s : ByteArray) (lv : Int) (x : LX) : Sound (OQ g) (.loop Eo) (jO ((I4 g).live.h.zip (KG lv)) (PU s x)) ((O4 s g lv x).map (OutC.st (I4 g).live)) := by
 refine rz mixed (ks := Sd g) (ls := [I4 g]) (c := Eo) (nb := 1) (N := 153) (Lj hD) (fV (by kernel_rfl)) (I4 g).live (fun _ : LX => KG lv) (fun x => PU s x) (fun x => O4 s g lv x) (fun x => x.f)
  (Q := fun x => MC s g lv x.a x.c x.acc) (fun x post hp => ?_) (fun a Rn Re => by kernel_rfl) x
 obtain ⟨f, a, c, acc⟩ := x
 obtain ⟨⟨hf, hs, hc, ⟨hl1, hl2⟩, ha, hsome⟩, hp⟩ := hp
 have hp : post (.ret, [.ptr 1 0], [some (pOb s (jV s f lv a c acc).a (jV s f lv a c acc).c (jV s f lv a c acc).e),
  some (.cells jZ [vI .i64 4, vI .i64 0, vS noS, .nm 2]), some (.row jZ 4 (jV s f lv a c acc).d.l.length (dmL (jV s f lv a c acc).d.l))]) := hp
 obtain ⟨R, hR⟩ := Option.isSome_iff_exists.1 hsome
 have eR := F9 hR
 simp only at hf hs hc ha hR
 have b1 := vM s a
 have b2 := vD s a hs.2.2
 have hb : okS s (blk s a) := ⟨hs.1, by have := hs.2.1; omega, b2⟩
 cases f with
 | zero => simp [kK] at hR
 | succ f =>
 have call : ¬ (blk s a < s.size /\ ak s (blk s a) = 41) -> ∃ r, iF s f (lv + 1) (blk s a) c = some r /\ (if r.e ≠ 0 then R = ⟨.mk 4 0 noS acc, r.a, r.c, r.e⟩ else kK s f lv r.a r.c (acc ++ [r.d]) = some R) := fun h => by
  rw [kK, if_neg h] at hR
  split at hR
  · cases hR
  · rename_i r hr
    refine ⟨r, hr, ?_⟩
    split at hR
    · rename_i g; rw [if_pos g]; injection hR with hR; exact hR.symm
    · rename_i g; rw [if_neg g]; exact hR
 unfold MC
 simp only [lo, hi]
 have part : ¬ (blk s a < s.size /\ ak s (blk s a) = 41) -> _ := fun h => call h
 refine ⟨aC _, aN _, hs, fun _ => ⟨fun hlt => ⟨⟨hb.2.1, of_decide_eq_true hlt⟩, fun h41 => ⟨⟨by have := hb.2.1; omega, by have := hs.1; omega⟩, ?_⟩, fun h41 => ?_⟩, fun hlt => ?_⟩, fun h => (by cases h)⟩
 · have hlt := of_decide_eq_true hlt
   have h41 : ak s (blk s a) = 41 := by simpa using h41
   rw [kK, if_pos ⟨hlt, h41⟩] at hR
   injection hR with hR
   rw [eR, ← hR] at hp
   exact mF.mk hp (aC _) (aG _)
 all_goals
  obtain ⟨r, hr, hRr⟩ := call (by first | (rintro ⟨_, h⟩; simp [h] at h41; done) | (rintro ⟨h, _⟩; simp [h] at hlt; done))
  have er := yR (g := g) (by omega : f <= g) hr
  obtain ⟨k1, k2, k3, k4⟩ := (yC s f).1 _ _ _ _ hr hb hc
  refine ⟨⟨by omega, by omega⟩, aC _, aN _, ⟨hb, hc, ⟨by omega, by omega⟩, by rw [jS (by omega : f <= g) hr]; rfl⟩, fun he => ?_, fun he => ⟨by have := hc.2; omega, ?_⟩⟩
  · rw [er] at he ⊢
    have he : r.e ≠ 0 := by simpa using he
    rw [if_pos he] at hRr
    rw [eR, hRr] at hp
    exact mF.mk hp (aC _) (aG _)
  · rw [er] at he ⊢
    have he : r.e = 0 := by simpa using he
    rw [if_neg (by simpa using he)] at hRr
    rw [eR] at hp
    refine ⟨⟨f, r.a, r.c, acc ++ [r.d]⟩, Nat.lt_succ_self f, aC _, ?_, ⟨by simp only; omega, k1, ⟨Int.le_trans hc.1 k3, k2 he⟩, ⟨hl1, hl2⟩, by have := k4 he; simp; omega, by simp only; rw [hRr]; rfl⟩, ?_⟩
    · rw [he]
      refine ⟨dM _, dM _, dM _, ⟨rfl, rfl, by simp, fun k hk j hj => Io acc r.d k j hk hj⟩, trivial⟩
    · simp only
      have : post (.ret, [.ptr 1 0], [some (pOb s (jV s f lv r.a r.c (acc ++ [r.d])).a (jV s f lv r.a r.c (acc ++ [r.d])).c (jV s f lv r.a r.c (acc ++ [r.d])).e),
        some (.cells jZ [vI .i64 4, vI .i64 0, vS noS, .nm 2]), some (.row jZ 4 (jV s f lv r.a r.c (acc ++ [r.d])).d.l.length (dmL (jV s f lv r.a r.c (acc ++ [r.d])).d.l))]) := by
        rw [F9 hRr]; exact hp
      exact this
end Rd
set_option linter.unusedSimpArgs false
set_option linter.unusedVariables false
open Rx Go
namespace Rd
theorem RX {g : Nat} (hD : (zM g).Ok prog) : Ky (OQ g) (I4 g) Eo := by
 intro svs obl args obs out h
 unfold I4 at h
 simp only at h
 repeat' split at h
 all_goals first
  | (simp only [Option.some.injEq, Prod.mk.injEq] at h; obtain ⟨rfl, rfl, rfl⟩ := h; apply ER hD)
  | cases h
theorem NP {g : Nat} (hD : (zM g).Ok prog) : (OQ g).Lok (bH (bI tY)) := by
 have hl : bH (bI tY) = [Eo] := by kernel_rfl
 rw [hl]
 refine lG fun f h c hc hr => ?_
 rw [List.mem_singleton] at hc h
 subst hc; subst h
 exact RX hD
theorem Oy (d : Dm) : leS (.agg [vI .i64 4, .ki .i64 0, vS ⟨#[]⟩, .dt (.arr 4 2 (lN 4 [Dt.cell (.int .i64 3), .cell (.int .i64 0), .cell (.string mZ), .cell (.slice none 0 0), .cell (.int .i64 d.k), .cell (.int .i64 d.n), .cell (.string d.s), .arr 4 d.l.length (dmL d.l)]))]) (dmS (.mk 4 0 noS [.mk 3 0 mZ [], d])) := by
 simp only [dmS, dmA, Dm.k, Dm.n, Dm.s, Dm.l, FQ, tF, yD, and_true]
 refine ⟨aF _, (mU _ _ _).2 rfl, aF _, ?_⟩
 rw [F8, QC]
 refine ⟨rfl, .inr ⟨rfl, fun k hk j hj => ?_⟩⟩
 rw [yw hj (by simp; omega)]
 match k, hk with
 | 0, _ =>
   match j, hj with
   | 0, _ => simp [dmL, dmT, bS]
   | 1, _ => simp [dmL, dmT, bS]
   | 2, _ => simp [dmL, dmT, bS]
   | 3, _ => simp [dmL, dmT, bS, isNil]
 | 1, _ =>
   have e : dmL [.mk 3 0 mZ [], d] 1 j = dmT d j := by simp [dmL]
   rw [e, P6 d j hj]
   match j, hj with
   | 0, _ => exact cO _
   | 1, _ => exact cO _
   | 2, _ => exact cO _
   | 3, _ => exact cO _
theorem BH {g : Nat} (hD : (zM g).Ok prog) (s : ByteArray) (lv a c : Int) : Ctr prog yA [.ptr 0 0, vI .i64 lv] [pOb s a c 0] (EG s (g + 1) lv a c) := by
 refine jv mixed (N := 153) (fn := tY) (c := bI tY) (ks := Sd g) (ls := [I4 g]) (by kernel_rfl) (by kernel_rfl) (by kernel_rfl) (Lj hD) ⟨true, none⟩ (NP hD) (by kernel_rfl) (Q := OG s g lv a c) (fun post hp => ?_) (fun R => by kernel_rfl)
 obtain ⟨⟨hs, hc, hl, hsome⟩, hp⟩ := hp
 have hp : post (dmS (aT s (g + 1) lv a c).d, [some (pOb s (aT s (g + 1) lv a c).a (aT s (g + 1) lv a c).c (aT s (g + 1) lv a c).e)]) := hp
 obtain ⟨R, hR⟩ := Option.isSome_iff_exists.1 hsome
 rw [yR (Nat.le_refl _) hR] at hp
 have b1 := vM s a
 have b2 := vD s a hs.2.2
 have hb : okS s (blk s a) := ⟨hs.1, by have := hs.2.1; omega, b2⟩
 have hcl := hc.1
 have hcu := hc.2
 have hl1 := hl.1
 have hl2 := hl.2
 have hs1 := hs.1
 have hb0 := hb.2.1
 have leaf : ∀ {v : SV} {d : Dm} {a c e : Int}, R = ⟨d, a, c, e⟩ -> leS v (dmS d) -> Gives post v [some (pOb s a c e)] := fun h hv => by
  rw [h] at hp; exact lS hp hv (aG _)
 rw [iF] at hR
 unfold OG
 simp only [lo, hi]
 refine ⟨aC _, aN _, hs, fun h => (by cases h), fun _ => ⟨fun h => ⟨aC _, aN _, trivial, ?_⟩, fun h1 => ⟨⟨by omega, by omega⟩, fun h => ⟨aC _, aN _, trivial, ?_⟩, fun h2 =>
  ⟨fun h => ⟨aC _, aN _, trivial, ?_⟩, fun h3 => ?_⟩⟩⟩⟩
 · have h : blk s a = s.size := by simpa using h
   rw [if_pos h] at hR
   injection hR with hR
   exact leaf hR.symm (aF _)
 · have h1 : ¬ blk s a = s.size := by simpa using h1
   rw [if_neg h1, if_pos (of_decide_eq_true h)] at hR
   injection hR with hR
   exact leaf hR.symm (aF _)
 · have h1 : ¬ blk s a = s.size := by simpa using h1
   rw [if_neg h1, if_neg (of_decide_eq_false h2), if_pos (of_decide_eq_true h)] at hR
   injection hR with hR
   exact leaf hR.symm (aF _)
 have h1 : ¬ blk s a = s.size := by simpa using h1
 have h2 := of_decide_eq_false h2
 have h3 := of_decide_eq_false h3
 rw [if_neg h1, if_neg h2, if_neg h3] at hR
 have hb1 : okS s (blk s a + 1) := ⟨hs1, by omega, by omega⟩
 have hc1 : okC (c + 1) := ⟨by omega, by omega⟩
 refine ⟨⟨hb0, by omega⟩, fun h => ⟨aC _, aN _, trivial, ?_⟩, fun h41 => ?_⟩
 · have h : ak s (blk s a) = 41 := by simpa using h
   rw [if_pos h] at hR
   injection hR with hR
   exact leaf hR.symm (aF _)
 have h41 : ¬ ak s (blk s a) = 41 := by simpa using h41
 rw [if_neg h41] at hR
 refine ⟨fun h => ?_, fun h39 => ?_⟩
 · have h : ak s (blk s a) = 39 := by simpa using h
   rw [if_pos h] at hR
   obtain ⟨r, hr, hRr⟩ := Option.map_eq_some_iff.1 hR
   refine ⟨⟨by omega, by omega⟩, ⟨by omega, by omega⟩, aC _, aN _, ⟨hb1, hc1, ⟨by omega, by omega⟩, by rw [hr]; rfl⟩, trivial, ?_⟩
   rw [yR (Nat.le_refl _) hr]
   exact leaf hRr.symm (Oy r.d)
 have h39 : ¬ ak s (blk s a) = 39 := by simpa using h39
 rw [if_neg h39] at hR
 refine ⟨fun h => ?_, fun h40 => ?_⟩
 · have h : ak s (blk s a) = 40 := by simpa using h
   rw [if_pos h] at hR
   obtain ⟨k1, k2, k3, k4⟩ := (yC s g).2 _ _ _ _ _ hR hb1 hc1
   refine ⟨⟨by omega, by omega⟩, ⟨aF _, aF _, aF _, aF _, trivial⟩, ?_, ⟨Nat.le_refl _, hb1, hc1, ⟨by omega, by omega⟩, by simp [gI]; omega, by
    show (kK s g lv (blk s a + 1) (c + 1) []).isSome = true
    rw [hR]; rfl⟩, trivial, ?_⟩
   · exact ⟨dM _, dM _, ⟨rfl, aF _, (mU _ _ _).2 rfl, aF _, aF _, trivial⟩, ⟨rfl, rfl, rfl, fun k hk => absurd hk (by simp)⟩, trivial⟩
   · have e : jV s g lv (blk s a + 1) (c + 1) gI = R := F9 hR
     rw [e]
     refine leaf (d := .mk 4 0 noS R.d.l) (a := R.a) (c := R.c) (e := R.e) (by rw [← k4]) (aF _)
 · have h40 : ¬ ak s (blk s a) = 40 := by simpa using h40
   rw [if_neg h40] at hR
   injection hR with hR
   exact ⟨aC _, aN _, ⟨hb, hb0, Int.le_refl _⟩, trivial, leaf hR.symm (aF _)⟩
theorem MO : ∀ f : Nat, (zM f).Ok prog := by
 have key : ∀ f : Nat, (∀ (s : ByteArray) (lv a c : Int), Ctr prog yA [.ptr 0 0, vI .i64 lv] [pOb s a c 0] (EG s f lv a c)) -> (zM f).Ok prog := by
  intro f hf al ol args obs out h
  unfold zM at h
  simp only at h
  repeat' split at h
  all_goals first
   | (simp only [Option.some.injEq, Prod.mk.injEq] at h; obtain ⟨rfl, rfl, rfl⟩ := h; apply hf)
   | cases h
 intro f
 induction f with
 | zero => exact key 0 fun s lv a c => tT fun h => by obtain ⟨_, _, _, h⟩ := h; simp [iF] at h
 | succ f ih => exact key (f + 1) fun s lv a c => BH ih s lv a c
theorem Wi (s : ByteArray) (f : Nat) (lv a c : Int) : Ctr prog yA [.ptr 0 0, vI .i64 lv] [pOb s a c 0] (EG s f lv a c) := by
 cases f with
 | zero => exact tT fun h => by obtain ⟨_, _, _, h⟩ := h; simp [iF] at h
 | succ f => exact BH (MO f) s lv a c
end Rd
set_option linter.unusedSimpArgs false
set_option linter.unusedVariables false
open Rx Go
namespace Rd
structure RR where
 l : List Dm
 i : Int
 e : Int
instance : Inhabited RR := ⟨⟨[], 0, 0⟩⟩
def lJ (s : ByteArray) : Nat -> Int -> Int -> List Dm -> Option RR
 | 0, _, _, _ => none
 | f + 1, a, c, acc =>
   if a < s.size then match iF s f 1 a c with
     | none => none
     | some r => if r.e ≠ 0 then some ⟨[], r.a, r.e⟩ else lJ s f (blk s r.a) r.c (acc ++ [r.d])
   else some ⟨acc, 0, 0⟩
def tQ (s : ByteArray) (f : Nat) (a c : Int) (acc : List Dm) : RR := (lJ s f a c acc).getD default
def tO (f : Nat) (s : ByteArray) : Option RR := lJ s f (blk s 0) 0 []
def j5 (f : Nat) (s : ByteArray) : RR := (tO f s).getD default
def Ul (f : Nat) (s : ByteArray) : T Out := .need (s.size <= 3000 /\ (tO f s).isSome = true) (.ret (.tup [dmA (j5 f s).l, vI .i64 (j5 f s).i, vI .i64 (j5 f s).e], []))
def Um (f : Nat) : FC := ⟨EP, false, false, fun al ol => match al, ol with
 | [x], [] => match rdS x with
   | some s => some ([vS s], [], Ul f s)
   | none => none
 | _, _ => none⟩
def JR (s : ByteArray) : List SV := [vS s, .ptr 0 0, .nm 1]
def Qm (s : ByteArray) (x : LX) : List (Option Ob) := [some (pOb s x.a x.c 0), some (.row jZ 4 x.acc.length (dmL x.acc))]
def Ug (s : ByteArray) (r : RR) : T OutC := .ite (r.e == 0) (.ret (.exit 0, [.nm 0], [some (.row jZ 4 r.l.length (dmL r.l))])) (.ret (.ret, [.dt (.cell (.slice none 0 0)), vI .i64 r.i, vI .i64 r.e], []))
def Rs (s : ByteArray) (g : Nat) (x : LX) : T OutC := .need (x.f <= g /\ okS s x.a /\ okC x.c /\ x.acc.length <= x.c /\ (lJ s x.f x.a x.c x.acc).isSome = true) (Ug s (tQ s x.f x.a x.c x.acc))
def I5 (g : Nat) : LF := ⟨6, ⟨[0, 5, 6], [6], [2, 3, 4]⟩, fun svs obl => match svs, obl with
 | [_, .ptr 0 0, .nm 1], some (.cells _ [s, a, c, _]) :: _ => match rdS s, rdI a, rdI c with
   | some s, some a, some c => some (JR s, Qm s ⟨g, a, c, gI⟩, Rs s g ⟨g, a, c, gI⟩)
   | _, _, _ => none
 | _, _ => none⟩
def RZ (g : Nat) : List (Nat × Nat × FC) := [(4, 0, noF), (5, 1, bkF), (8, 1, zM g), (7, 1, bkF), (12, 1, clF)]
noncomputable def QU (g : Nat) : Env := fnE prog 46 0 (RZ g) [I5 g]
noncomputable def Ep : Code := (jo 6 (bI yX)).getD .skip
def Mf (s : ByteArray) (g : Nat) (a c : Int) (acc : List Dm) (Rn : List SV -> List (Option Ob) -> Prop) (Re : Ex -> List SV -> List (Option Ob) -> Prop) : Prop :=
(((decide (a < (↑s.size : Int)) = true) ->
 ((Rx.leL ([SV.ptr 0 0, SV.dt (Dt.cell (.int .i64 (1 : Int)))]) ([SV.ptr 0 0, SV.dt (Dt.cell (.int .i64 (1 : Int)))])) /\
  ((Rx.aX ([Ob.cells 113 [SV.dt (Dt.cell (.string s)), SV.dt (Dt.cell (.int .i64 a)), SV.dt (Dt.cell (.int .i64 c)), SV.dt (Dt.cell (.int .i64 (0 : Int)))]]) ([Ob.cells 113 [SV.dt (Dt.cell (.string s)), SV.dt (Dt.cell (.int .i64 a)), SV.dt (Dt.cell (.int .i64 c)), SV.dt (Dt.cell (.int .i64 (0 : Int)))]])) /\
   (((Rd.okS s a) /\
     ((Rd.okC c) /\
      ((Rd.okL (1 : Int)) /\
       ((Rd.iF s g (1 : Int) a c).isSome = true)))) /\
    (((((Rd.aT s g (1 : Int) a c).e != (0 : Int)) = true) ->
      Re (Rx.Ex.ret) ([SV.dt (Dt.cell (.slice Option.none (0 : Nat) (0 : Nat))), SV.dt (Dt.cell (.int .i64 (Rd.aT s g (1 : Int) a c).a)), SV.dt (Dt.cell (.int .i64 (Rd.aT s g (1 : Int) a c).e))]) ([])) /\
     ((((Rd.aT s g (1 : Int) a c).e != (0 : Int)) = false) ->
      (((acc.length + (1 : Nat)) * (56 : Nat) <= (140737488355328 : Nat)) /\
       ((Rx.leL ([SV.ptr 0 0]) ([SV.ptr 0 0])) /\
        ((Rx.aX ([Ob.cells 113 [SV.dt (Dt.cell (.string s)), SV.dt (Dt.cell (.int .i64 (Rd.aT s g (1 : Int) a c).a)), SV.dt (Dt.cell (.int .i64 (Rd.aT s g (1 : Int) a c).c)), SV.dt (Dt.cell (.int .i64 (Rd.aT s g (1 : Int) a c).e))]]) ([Ob.cells 113 [SV.dt (Dt.cell (.string s)), SV.dt (Dt.cell (.int .i64 (Rd.aT s g (1 : Int) a c).a)), SV.dt (Dt.cell (.int .i64 (Rd.aT s g (1 : Int) a c).c)), SV.dt (Dt.cell (.int .i64 (Rd.aT s g (1 : Int) a c).e))]])) /\
         ((Rd.okS s (Rd.aT s g (1 : Int) a c).a) /\
          Rn ([SV.dt (Dt.cell (.string s)), SV.ptr 0 0, SV.nm 1]) ([some (Ob.cells 113 [SV.dt (Dt.cell (.string s)), SV.dt (Dt.cell (.int .i64 (Rd.blk s (Rd.aT s g (1 : Int) a c).a))), SV.dt (Dt.cell (.int .i64 (Rd.aT s g (1 : Int) a c).c)), SV.dt (Dt.cell (.int .i64 (Rd.aT s g (1 : Int) a c).e))]), some (Ob.row 49 4 (acc.length + (1 : Nat)) (Rx.eY acc.length (Rd.dmL acc) (Rx.lN (4 : Nat) [Rx.Dt.cell (.int .i64 (Rd.aT s g (1 : Int) a c).d.k), Rx.Dt.cell (.int .i64 (Rd.aT s g (1 : Int) a c).d.n), Rx.Dt.cell (.string (Rd.aT s g (1 : Int) a c).d.s), Rx.Dt.arr (4 : Nat) (Rd.aT s g (1 : Int) a c).d.l.length (Rd.dmL (Rd.aT s g (1 : Int) a c).d.l)])))]))))))))))) /\
((decide (a < (↑s.size : Int)) = false) ->
 Re (Rx.Ex.exit (0 : Nat)) ([SV.nm 0]) ([some (Ob.row 49 4 (acc.length) (Rd.dmL acc))])))
def Uf (s : ByteArray) (g : Nat) (R : SV -> List (Option Ob) -> Prop) : Prop :=
(((decide ((↑s.size : Int) > (3000 : Int)) = true) ->
 (True /\
  R (SV.tup [SV.dt (Dt.cell (.slice Option.none (0 : Nat) (0 : Nat))), SV.dt (Dt.cell (.int .i64 (0 : Int))), SV.dt (Dt.cell (.int .i64 (1 : Int)))]) ([]))) /\
((decide ((↑s.size : Int) > (3000 : Int)) = false) ->
 ((Rx.leL ([SV.ptr 0 0]) ([SV.ptr 0 0])) /\
  ((Rx.aX ([Ob.cells 113 [SV.dt (Dt.cell (.string s)), SV.ki .i64 ((0 : Int)), SV.ki .i64 ((0 : Int)), SV.ki .i64 ((0 : Int))]]) ([Ob.cells 113 [SV.dt (Dt.cell (.string s)), SV.dt (Dt.cell (.int .i64 (0 : Int))), SV.dt (Dt.cell (.int .i64 (0 : Int))), SV.dt (Dt.cell (.int .i64 (0 : Int)))]])) /\
   ((Rd.okS s (0 : Int)) /\
    (((Rx.leS (SV.dt (Dt.cell (.string s))) (SV.dt (Dt.cell (.string s)))) /\
      ((Rx.leS (SV.ptr 0 0) (SV.ptr 0 0)) /\
       ((Rx.leS (SV.nm 1) (SV.nm 1)) /\
        True))) /\
     ((Rx.leOO ([some (Ob.cells 113 [SV.dt (Dt.cell (.string s)), SV.dt (Dt.cell (.int .i64 (Rd.blk s (0 : Int)))), SV.dt (Dt.cell (.int .i64 (0 : Int))), SV.dt (Dt.cell (.int .i64 (0 : Int)))]), some (Ob.row 49 4 ((0 : Nat)) (fun x x_1 => Rx.aQ))]) ([some (Ob.cells 113 [SV.dt (Dt.cell (.string s)), SV.dt (Dt.cell (.int .i64 (Rd.blk s (0 : Int)))), SV.dt (Dt.cell (.int .i64 (0 : Int))), SV.dt (Dt.cell (.int .i64 (0 : Int)))]), some (Ob.row 49 4 (Rd.gI.length) (Rd.dmL Rd.gI))])) /\
      (((g <= g) /\
        ((Rd.okS s (Rd.blk s (0 : Int))) /\
         ((Rd.okC (0 : Int)) /\
          (((↑Rd.gI.length : Int) <= (0 : Int)) /\
           ((Rd.lJ s g (Rd.blk s (0 : Int)) (0 : Int) Rd.gI).isSome = true))))) /\
       (((((Rd.tQ s g (Rd.blk s (0 : Int)) (0 : Int) Rd.gI).e == (0 : Int)) = true) ->
         ((Rx.leL ([SV.dt (Dt.arr ((4 : Nat)) ((Rd.tQ s g (Rd.blk s (0 : Int)) (0 : Int) Rd.gI).l.length) (Rd.dmL (Rd.tQ s g (Rd.blk s (0 : Int)) (0 : Int) Rd.gI).l))]) ([SV.dt (Dt.arr ((4 : Nat)) ((Rd.tQ s g (Rd.blk s (0 : Int)) (0 : Int) Rd.gI).l.length) (Rd.dmL (Rd.tQ s g (Rd.blk s (0 : Int)) (0 : Int) Rd.gI).l))])) /\
          ((Rx.aX ([]) ([])) /\
           (True /\
            R (SV.tup [SV.dt (Dt.arr ((4 : Nat)) ((Rd.tQ s g (Rd.blk s (0 : Int)) (0 : Int) Rd.gI).l.length) (Rd.dmL (Rd.tQ s g (Rd.blk s (0 : Int)) (0 : Int) Rd.gI).l)), SV.dt (Dt.cell (.int .i64 (0 : Int))), SV.dt (Dt.cell (.int .i64 (0 : Int)))]) ([]))))) /\
        ((((Rd.tQ s g (Rd.blk s (0 : Int)) (0 : Int) Rd.gI).e == (0 : Int)) = false) ->
         (True /\
          R (SV.tup [SV.dt (Dt.cell (.slice Option.none (0 : Nat) (0 : Nat))), SV.dt (Dt.cell (.int .i64 (Rd.tQ s g (Rd.blk s (0 : Int)) (0 : Int) Rd.gI).i)), SV.dt (Dt.cell (.int .i64 (Rd.tQ s g (Rd.blk s (0 : Int)) (0 : Int) Rd.gI).e))]) ([]))))))))))))
theorem zW (s : ByteArray) : ∀ (f : Nat) (a c : Int) (acc : List Dm) (r : RR), lJ s f a c acc = some r -> (r.e = 0 -> r.i = 0) /\ (r.e ≠ 0 -> r.l = [])
 | 0, _, _, _, _, h => by simp [lJ] at h
 | f + 1, a, c, acc, r, h => by
   rw [lJ] at h
   split at h
   · split at h
     · cases h
     · rename_i q _
       split at h
       · rename_i g; injection h with h; subst h; exact ⟨fun h => absurd h g, fun _ => rfl⟩
       · exact zW s f _ _ _ _ h
   · injection h with h; subst h; exact ⟨fun _ => rfl, fun h => absurd rfl h⟩
theorem Fu {s : ByteArray} {f : Nat} {a c : Int} {acc : List Dm} {r : RR} (hr : lJ s f a c acc = some r) : tQ s f a c acc = r := by
 unfold tQ
 rw [hr]; rfl
theorem Oz {f : Nat} {s : ByteArray} {r : RR} (hr : tO f s = some r) : j5 f s = r := by
 unfold j5
 rw [hr]; rfl
theorem LC (g : Nat) : ∀ x ∈ RZ g, x.2.2.Ok prog := all_cons Rf (all_cons Fg (all_cons (MO g) (all_cons Fg (all_cons Vj all_nil))))
theorem Gx {g : Nat} (s : ByteArray) (x : LX) : Sound (QU g) (.loop Ep) (jO ((I5 g).live.h.zip (JR s)) (Qm s x)) ((Rs s g x).map (OutC.st (I5 g).live)) := by
 refine rz mixed (ks := RZ g) (ls := [I5 g]) (c := Ep) (nb := 0) (N := 46) (LC g) (fV (by kernel_rfl)) (I5 g).live (fun _ : LX => JR s) (fun x => Qm s x) (fun x => Rs s g x) (fun x => x.f)
  (Q := fun x => Mf s g x.a x.c x.acc) (fun x post hp => ?_) (fun a Rn Re => by kernel_rfl) x
 obtain ⟨f, a, c, acc⟩ := x
 obtain ⟨⟨hf, hs, hc, ha, hsome⟩, hp0⟩ := hp
 obtain ⟨R, hR⟩ := Option.isSome_iff_exists.1 hsome
 have hp : (Ug s (tQ s f a c acc)).holds post := hp0
 clear hp0
 rw [Fu hR] at hp
 simp only at hf hs hc ha hR
 have hcl := hc.1
 have hcu := hc.2
 cases f with
 | zero => simp [lJ] at hR
 | succ f =>
 rw [lJ] at hR
 unfold Mf
 refine ⟨fun hlt => ?_, fun hlt => ?_⟩
 · rw [if_pos (of_decide_eq_true hlt)] at hR
   split at hR
   · cases hR
   · rename_i r hr
     have er := yR (g := g) (by omega : f <= g) hr
     obtain ⟨k1, k2, k3, k4⟩ := (yC s f).1 _ _ _ _ hr hs hc
     refine ⟨aC _, aN _, ⟨hs, hc, ⟨by omega, by omega⟩, by rw [jS (by omega : f <= g) hr]; rfl⟩, fun he => ?_, fun he => ⟨by show (acc.length + 1) * 56 <= 140737488355328; omega, aC _, aN _, by rw [er]; exact k1, ?_⟩⟩
     · rw [er] at he ⊢
       have he : r.e ≠ 0 := by simpa using he
       rw [if_pos he] at hR
       injection hR with hR
       rw [← hR] at hp
       exact mF.mk (hp.2 (by simpa using he)) (aC _) (aG _)
     · rw [er] at he ⊢
       have he : r.e = 0 := by simpa using he
       rw [if_neg (by simpa using he)] at hR
       have c1 := vM s r.a
       have c2 := vD s r.a k1.2.2
       refine ⟨⟨f, blk s r.a, r.c, acc ++ [r.d]⟩, Nat.lt_succ_self f, aC _, ?_, ⟨by simp only; omega, ⟨k1.1, by have := k1.2.1; simp only; omega, c2⟩, ⟨Int.le_trans hcl k3, k2 he⟩, by have := k4 he; simp; omega, by simp only; rw [hR]; rfl⟩, ?_⟩
       · rw [he]
         exact ⟨dM _, ⟨rfl, rfl, by simp, fun k hk j hj => Io acc r.d k j hk hj⟩, trivial⟩
       · simp only
         rw [Fu hR]; exact hp
 · rw [if_neg (of_decide_eq_false hlt)] at hR
   injection hR with hR
   rw [← hR] at hp
   exact mF.mk (hp.1 rfl) (aC _) (aG _)
theorem R4 {g : Nat} : Ky (QU g) (I5 g) Ep := by
 intro svs obl args obs out h
 unfold I5 at h
 simp only at h
 repeat' split at h
 all_goals first
  | (simp only [Option.some.injEq, Prod.mk.injEq] at h; obtain ⟨rfl, rfl, rfl⟩ := h; apply Gx)
  | cases h
theorem M5 {g : Nat} : (QU g).Lok (bH (bI yX)) := by
 have hl : bH (bI yX) = [Ep] := by kernel_rfl
 rw [hl]
 refine lG fun f h c hc hr => ?_
 rw [List.mem_singleton] at hc h
 subst hc; subst h
 exact R4
theorem Jb (g : Nat) (s : ByteArray) : Ctr prog EP [vS s] [] (Ul g s) := by
 refine jv mixed (N := 46) (fn := yX) (c := bI yX) (ks := RZ g) (ls := [I5 g]) (by kernel_rfl) (by kernel_rfl) (by kernel_rfl) (LC g) AB M5 (by kernel_rfl) (Q := Uf s g) (fun post hp => ?_) (fun R => by kernel_rfl)
 obtain ⟨⟨hs, hsome⟩, hp⟩ := hp
 have hp : post (.tup [dmA (j5 g s).l, vI .i64 (j5 g s).i, vI .i64 (j5 g s).e], []) := hp
 obtain ⟨R, hR⟩ := Option.isSome_iff_exists.1 hsome
 rw [Oz hR] at hp
 have hR' : lJ s g (blk s 0) 0 gI = some R := hR
 have eR := Fu hR'
 have b1 := vM s 0
 have b2 := vD s 0 (by omega)
 obtain ⟨k1, k2⟩ := zW _ _ _ _ _ _ hR
 unfold Uf
 refine ⟨fun h => absurd (of_decide_eq_true h) (by omega), fun _ => ⟨aC _, ⟨⟨rfl, aF _, (mU _ _ _).2 rfl, (mU _ _ _).2 rfl, (mU _ _ _).2 rfl, trivial⟩, trivial⟩, ⟨hs, by omega, by omega⟩, ⟨aF _, aF _, aF _, trivial⟩,
  ⟨dM _, ⟨rfl, rfl, rfl, fun k hk => absurd hk (by simp)⟩, trivial⟩, ⟨Nat.le_refl _, ⟨hs, by omega, b2⟩, ⟨by omega, by omega⟩, by simp [gI], by rw [hR']; rfl⟩, fun he => ⟨aC _, trivial, trivial, ?_⟩, fun he => ⟨trivial, ?_⟩⟩⟩
 · rw [eR] at he ⊢
   have he : R.e = 0 := by simpa using he
   refine wz hp ?_
   rw [he, k1 he]
   exact aF _
 · rw [eR] at he ⊢
   have he : R.e ≠ 0 := by simpa using he
   refine wz hp ?_
   rw [k2 he]
   simp only [Rv, tF, yD, and_true]
   refine ⟨?_, aF _, aF _⟩
   unfold dmA
   rw [F8]
   simp only [bS]
   exact ⟨rfl, rfl⟩
theorem WE (g : Nat) : (Um g).Ok prog := by
 intro al ol args obs out h
 unfold Um at h
 simp only at h
 repeat' split at h
 all_goals first
  | (simp only [Option.some.injEq, Prod.mk.injEq] at h; obtain ⟨rfl, rfl, rfl⟩ := h; apply Jb)
  | cases h
end Rd
