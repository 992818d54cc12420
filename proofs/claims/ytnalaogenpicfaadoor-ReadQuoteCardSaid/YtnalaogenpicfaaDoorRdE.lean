/- A text is read. -/
import Derived.Test.YtnalaogenpicfaaDoorRdD
set_option linter.unusedSimpArgs false
set_option linter.unusedVariables false
open Rx Go
namespace Rd
--PROG prog

structure RR where
  l : List Dm
  i : Int
  e : Int
instance : Inhabited RR := ⟨⟨[], 0, 0⟩⟩
def redS (s : ByteArray) : Nat → Int → Int → List Dm → Option RR
  | 0, _, _, _ => none
  | f + 1, a, c, acc =>
    if a < s.size then match datS s f 1 a c with
      | none => none
      | some r => if r.e ≠ 0 then some ⟨[], r.a, r.e⟩ else redS s f (blk s r.a) r.c (acc ++ [r.d])
    else some ⟨acc, 0, 0⟩
def redR (s : ByteArray) (f : Nat) (a c : Int) (acc : List Dm) : RR := (redS s f a c acc).getD default
/-- a text is read, with so much fuel -/
def readS (f : Nat) (s : ByteArray) : Option RR := redS s f (blk s 0) 0 []
def readR (f : Nat) (s : ByteArray) : RR := (readS f s).getD default
def readO (f : Nat) (s : ByteArray) : T Out := .need (s.size ≤ 3000 ∧ (readS f s).isSome = true) (.ret (.tup [dmA (readR f s).l, vI .i64 (readR f s).i, vI .i64 (readR f s).e], []))
def readF (f : Nat) : FC := ⟨f_Read, false, false, fun al ol => match al, ol with
  | [x], [] => match rdS x with
    | some s => some ([vS s], [], readO f s)
    | none => none
  | _, _ => none⟩

def rlArgs (s : ByteArray) : List SV := [vS s, .ptr 0 0, .nm 1]
def rlObs (s : ByteArray) (x : LX) : List (Option Ob) := [some (pOb s x.a x.c 0), some (.row tDatum 4 x.acc.length (dmL x.acc))]
/-- in the end -/
def rlEnd (s : ByteArray) (r : RR) : T OutC := .ite (r.e == 0) (.ret (.exit 0, [.nm 0], [some (.row tDatum 4 r.l.length (dmL r.l))])) (.ret (.ret, [.dt (.cell (.slice none 0 0)), vI .i64 r.i, vI .i64 r.e], []))
def rlOut (s : ByteArray) (g : Nat) (x : LX) : T OutC := .need (x.f ≤ g ∧ okS s x.a ∧ okC x.c ∧ x.acc.length ≤ x.c ∧ (redS s x.f x.a x.c x.acc).isSome = true) (rlEnd s (redR s x.f x.a x.c x.acc))
def rlLF (g : Nat) : LF := ⟨6, ⟨[0, 5, 6], [6], [2, 3, 4]⟩, fun svs obl => match svs, obl with
  | [_, .ptr 0 0, .nm 1], some (.cells _ [s, a, c, _]) :: _ => match rdS s, rdI a, rdI c with
    | some s, some a, some c => some (rlArgs s, rlObs s ⟨g, a, c, nilD⟩, rlOut s g ⟨g, a, c, nilD⟩)
    | _, _, _ => none
  | _, _ => none⟩
def reKs (g : Nat) : List (Nat × Nat × FC) := [(4, 0, noF), (5, 1, bkF), (8, 1, datF g), (7, 1, bkF), (12, 1, clF)]
noncomputable def reEnv (g : Nat) : Env := fnE prog 46 0 (reKs g) [rlLF g]
noncomputable def rlLoop : Code := (loopIn 6 (bodyOf c_Read)).getD .skip

def rlLoopQ (s : ByteArray) (g : Nat) (a c : Int) (acc : List Dm) (Rn : List SV → List (Option Ob) → Prop) (Re : Ex → List SV → List (Option Ob) → Prop) : Prop :=
(((Decidable.decide (a < (↑s.size : Int)) = Bool.true) →
 ((Rx.leL ([SV.ptr 0 0, SV.dt (Dt.cell (Go.Value.int Go.IntKind.i64 (1 : Int)))]) ([SV.ptr 0 0, SV.dt (Dt.cell (Go.Value.int Go.IntKind.i64 (1 : Int)))])) ∧
  ((Rx.leObL ([Ob.cells 49 [SV.dt (Dt.cell (Go.Value.string s)), SV.dt (Dt.cell (Go.Value.int Go.IntKind.i64 a)), SV.dt (Dt.cell (Go.Value.int Go.IntKind.i64 c)), SV.dt (Dt.cell (Go.Value.int Go.IntKind.i64 (0 : Int)))]]) ([Ob.cells 49 [SV.dt (Dt.cell (Go.Value.string s)), SV.dt (Dt.cell (Go.Value.int Go.IntKind.i64 a)), SV.dt (Dt.cell (Go.Value.int Go.IntKind.i64 c)), SV.dt (Dt.cell (Go.Value.int Go.IntKind.i64 (0 : Int)))]])) ∧
   (((Rd.okS s a) ∧
     ((Rd.okC c) ∧
      ((Rd.okL (1 : Int)) ∧
       ((Rd.datS s g (1 : Int) a c).isSome = Bool.true)))) ∧
    (((((Rd.datR s g (1 : Int) a c).e != (0 : Int)) = Bool.true) →
      Re (Rx.Ex.ret) ([SV.dt (Dt.cell (Go.Value.slice Option.none (0 : Nat) (0 : Nat))), SV.dt (Dt.cell (Go.Value.int Go.IntKind.i64 (Rd.datR s g (1 : Int) a c).a)), SV.dt (Dt.cell (Go.Value.int Go.IntKind.i64 (Rd.datR s g (1 : Int) a c).e))]) ([])) ∧
     ((((Rd.datR s g (1 : Int) a c).e != (0 : Int)) = Bool.false) →
      (((acc.length + (1 : Nat)) * (56 : Nat) ≤ (140737488355328 : Nat)) ∧
       ((Rx.leL ([SV.ptr 0 0]) ([SV.ptr 0 0])) ∧
        ((Rx.leObL ([Ob.cells 49 [SV.dt (Dt.cell (Go.Value.string s)), SV.dt (Dt.cell (Go.Value.int Go.IntKind.i64 (Rd.datR s g (1 : Int) a c).a)), SV.dt (Dt.cell (Go.Value.int Go.IntKind.i64 (Rd.datR s g (1 : Int) a c).c)), SV.dt (Dt.cell (Go.Value.int Go.IntKind.i64 (Rd.datR s g (1 : Int) a c).e))]]) ([Ob.cells 49 [SV.dt (Dt.cell (Go.Value.string s)), SV.dt (Dt.cell (Go.Value.int Go.IntKind.i64 (Rd.datR s g (1 : Int) a c).a)), SV.dt (Dt.cell (Go.Value.int Go.IntKind.i64 (Rd.datR s g (1 : Int) a c).c)), SV.dt (Dt.cell (Go.Value.int Go.IntKind.i64 (Rd.datR s g (1 : Int) a c).e))]])) ∧
         ((Rd.okS s (Rd.datR s g (1 : Int) a c).a) ∧
          Rn ([SV.dt (Dt.cell (Go.Value.string s)), SV.ptr 0 0, SV.nm 1]) ([some (Ob.cells 49 [SV.dt (Dt.cell (Go.Value.string s)), SV.dt (Dt.cell (Go.Value.int Go.IntKind.i64 (Rd.blk s (Rd.datR s g (1 : Int) a c).a))), SV.dt (Dt.cell (Go.Value.int Go.IntKind.i64 (Rd.datR s g (1 : Int) a c).c)), SV.dt (Dt.cell (Go.Value.int Go.IntKind.i64 (Rd.datR s g (1 : Int) a c).e))]), some (Ob.row 37 4 (acc.length + (1 : Nat)) (Rx.catF acc.length (Rd.dmL acc) (Rx.litF (4 : Nat) [Rx.Dt.cell (Go.Value.int Go.IntKind.i64 (Rd.datR s g (1 : Int) a c).d.k), Rx.Dt.cell (Go.Value.int Go.IntKind.i64 (Rd.datR s g (1 : Int) a c).d.n), Rx.Dt.cell (Go.Value.string (Rd.datR s g (1 : Int) a c).d.s), Rx.Dt.arr (4 : Nat) (Rd.datR s g (1 : Int) a c).d.l.length (Rd.dmL (Rd.datR s g (1 : Int) a c).d.l)])))]))))))))))) ∧
((Decidable.decide (a < (↑s.size : Int)) = Bool.false) →
 Re (Rx.Ex.exit (0 : Nat)) ([SV.nm 0]) ([some (Ob.row 37 4 (acc.length) (Rd.dmL acc))])))
def readQ (s : ByteArray) (g : Nat) (R : SV → List (Option Ob) → Prop) : Prop :=
(((Decidable.decide ((↑s.size : Int) > (3000 : Int)) = Bool.true) →
 (True ∧
  R (SV.tup [SV.dt (Dt.cell (Go.Value.slice Option.none (0 : Nat) (0 : Nat))), SV.dt (Dt.cell (Go.Value.int Go.IntKind.i64 (0 : Int))), SV.dt (Dt.cell (Go.Value.int Go.IntKind.i64 (1 : Int)))]) ([]))) ∧
((Decidable.decide ((↑s.size : Int) > (3000 : Int)) = Bool.false) →
 ((Rx.leL ([SV.ptr 0 0]) ([SV.ptr 0 0])) ∧
  ((Rx.leObL ([Ob.cells 49 [SV.dt (Dt.cell (Go.Value.string s)), SV.ki Go.IntKind.i64 ((0 : Int)), SV.ki Go.IntKind.i64 ((0 : Int)), SV.ki Go.IntKind.i64 ((0 : Int))]]) ([Ob.cells 49 [SV.dt (Dt.cell (Go.Value.string s)), SV.dt (Dt.cell (Go.Value.int Go.IntKind.i64 (0 : Int))), SV.dt (Dt.cell (Go.Value.int Go.IntKind.i64 (0 : Int))), SV.dt (Dt.cell (Go.Value.int Go.IntKind.i64 (0 : Int)))]])) ∧
   ((Rd.okS s (0 : Int)) ∧
    (((Rx.leS (SV.dt (Dt.cell (Go.Value.string s))) (SV.dt (Dt.cell (Go.Value.string s)))) ∧
      ((Rx.leS (SV.ptr 0 0) (SV.ptr 0 0)) ∧
       ((Rx.leS (SV.nm 1) (SV.nm 1)) ∧
        True))) ∧
     ((Rx.leOO ([some (Ob.cells 49 [SV.dt (Dt.cell (Go.Value.string s)), SV.dt (Dt.cell (Go.Value.int Go.IntKind.i64 (Rd.blk s (0 : Int)))), SV.dt (Dt.cell (Go.Value.int Go.IntKind.i64 (0 : Int))), SV.dt (Dt.cell (Go.Value.int Go.IntKind.i64 (0 : Int)))]), some (Ob.row 37 4 ((0 : Nat)) (fun x x_1 => Rx.undefCell))]) ([some (Ob.cells 49 [SV.dt (Dt.cell (Go.Value.string s)), SV.dt (Dt.cell (Go.Value.int Go.IntKind.i64 (Rd.blk s (0 : Int)))), SV.dt (Dt.cell (Go.Value.int Go.IntKind.i64 (0 : Int))), SV.dt (Dt.cell (Go.Value.int Go.IntKind.i64 (0 : Int)))]), some (Ob.row 37 4 (Rd.nilD.length) (Rd.dmL Rd.nilD))])) ∧
      (((g ≤ g) ∧
        ((Rd.okS s (Rd.blk s (0 : Int))) ∧
         ((Rd.okC (0 : Int)) ∧
          (((↑Rd.nilD.length : Int) ≤ (0 : Int)) ∧
           ((Rd.redS s g (Rd.blk s (0 : Int)) (0 : Int) Rd.nilD).isSome = Bool.true))))) ∧
       (((((Rd.redR s g (Rd.blk s (0 : Int)) (0 : Int) Rd.nilD).e == (0 : Int)) = Bool.true) →
         ((Rx.leL ([SV.dt (Dt.arr ((4 : Nat)) ((Rd.redR s g (Rd.blk s (0 : Int)) (0 : Int) Rd.nilD).l.length) (Rd.dmL (Rd.redR s g (Rd.blk s (0 : Int)) (0 : Int) Rd.nilD).l))]) ([SV.dt (Dt.arr ((4 : Nat)) ((Rd.redR s g (Rd.blk s (0 : Int)) (0 : Int) Rd.nilD).l.length) (Rd.dmL (Rd.redR s g (Rd.blk s (0 : Int)) (0 : Int) Rd.nilD).l))])) ∧
          ((Rx.leObL ([]) ([])) ∧
           (True ∧
            R (SV.tup [SV.dt (Dt.arr ((4 : Nat)) ((Rd.redR s g (Rd.blk s (0 : Int)) (0 : Int) Rd.nilD).l.length) (Rd.dmL (Rd.redR s g (Rd.blk s (0 : Int)) (0 : Int) Rd.nilD).l)), SV.dt (Dt.cell (Go.Value.int Go.IntKind.i64 (0 : Int))), SV.dt (Dt.cell (Go.Value.int Go.IntKind.i64 (0 : Int)))]) ([]))))) ∧
        ((((Rd.redR s g (Rd.blk s (0 : Int)) (0 : Int) Rd.nilD).e == (0 : Int)) = Bool.false) →
         (True ∧
          R (SV.tup [SV.dt (Dt.cell (Go.Value.slice Option.none (0 : Nat) (0 : Nat))), SV.dt (Dt.cell (Go.Value.int Go.IntKind.i64 (Rd.redR s g (Rd.blk s (0 : Int)) (0 : Int) Rd.nilD).i)), SV.dt (Dt.cell (Go.Value.int Go.IntKind.i64 (Rd.redR s g (Rd.blk s (0 : Int)) (0 : Int) Rd.nilD).e))]) ([]))))))))))))
theorem redS_shape (s : ByteArray) : ∀ (f : Nat) (a c : Int) (acc : List Dm) (r : RR), redS s f a c acc = some r → (r.e = 0 → r.i = 0) ∧ (r.e ≠ 0 → r.l = [])
  | 0, _, _, _, _, h => by simp [redS] at h
  | f + 1, a, c, acc, r, h => by
    rw [redS] at h
    split at h
    · split at h
      · cases h
      · rename_i q _
        split at h
        · rename_i g; injection h with h; subst h; exact ⟨fun h => absurd h g, fun _ => rfl⟩
        · exact redS_shape s f _ _ _ _ h
    · injection h with h; subst h; exact ⟨fun _ => rfl, fun h => absurd rfl h⟩
theorem redR_eq {s : ByteArray} {f : Nat} {a c : Int} {acc : List Dm} {r : RR} (hr : redS s f a c acc = some r) : redR s f a c acc = r := by
  unfold redR
  rw [hr]; rfl
theorem readR_eq {f : Nat} {s : ByteArray} {r : RR} (hr : readS f s = some r) : readR f s = r := by
  unfold readR
  rw [hr]; rfl
theorem reKs_ok (g : Nat) : ∀ x ∈ reKs g, x.2.2.Ok prog := all_cons noF_ok (all_cons bkF_ok (all_cons (datF_ok g) (all_cons bkF_ok (all_cons clF_ok all_nil))))

theorem rlLoop_sound {g : Nat} (s : ByteArray) (x : LX) : Sound (reEnv g) (.loop rlLoop) (mkSt ((rlLF g).live.h.zip (rlArgs s)) (rlObs s x)) ((rlOut s g x).map (OutC.st (rlLF g).live)) := by
  refine loop_fn mixed (ks := reKs g) (ls := [rlLF g]) (c := rlLoop) (nb := 0) (N := 46) (reKs_ok g) (no_loops (by kernel_rfl)) (rlLF g).live (fun _ : LX => rlArgs s) (fun x => rlObs s x) (fun x => rlOut s g x) (fun x => x.f)
    (Q := fun x => rlLoopQ s g x.a x.c x.acc) (fun x post hp => ?_) (fun a Rn Re => by kernel_rfl) x
  obtain ⟨f, a, c, acc⟩ := x
  obtain ⟨⟨hf, hs, hc, ha, hsome⟩, hp0⟩ := hp
  obtain ⟨R, hR⟩ := Option.isSome_iff_exists.1 hsome
  have hp : (rlEnd s (redR s f a c acc)).holds post := hp0
  clear hp0
  rw [redR_eq hR] at hp
  simp only at hf hs hc ha hR
  have hcl := hc.1
  have hcu := hc.2
  cases f with
  | zero => simp [redS] at hR
  | succ f =>
  rw [redS] at hR
  unfold rlLoopQ
  refine ⟨fun hlt => ?_, fun hlt => ?_⟩
  · rw [if_pos (of_decide_eq_true hlt)] at hR
    split at hR
    · cases hR
    · rename_i r hr
      have er := datR_eq (g := g) (by omega : f ≤ g) hr
      obtain ⟨k1, k2, k3, k4⟩ := (datS_ok s f).1 _ _ _ _ hr hs hc
      refine ⟨leL_refl _, leObL_refl _, ⟨hs, hc, ⟨by omega, by omega⟩, by rw [datS_mono (by omega : f ≤ g) hr]; rfl⟩, fun he => ?_, fun he => ⟨by show (acc.length + 1) * 56 ≤ 140737488355328; omega, leL_refl _, leObL_refl _, by rw [er]; exact k1, ?_⟩⟩
      · rw [er] at he ⊢
        have he : r.e ≠ 0 := by simpa using he
        rw [if_pos he] at hR
        injection hR with hR
        rw [← hR] at hp
        exact Outs.mk (hp.2 (by simpa using he)) (leL_refl _) (leOO_refl _)
      · rw [er] at he ⊢
        have he : r.e = 0 := by simpa using he
        rw [if_neg (by simpa using he)] at hR
        have c1 := blk_ge s r.a
        have c2 := blk_le s r.a k1.2.2
        refine ⟨⟨f, blk s r.a, r.c, acc ++ [r.d]⟩, Nat.lt_succ_self f, leL_refl _, ?_, ⟨by simp only; omega, ⟨k1.1, by have := k1.2.1; simp only; omega, c2⟩, ⟨Int.le_trans hcl k3, k2 he⟩, by have := k4 he; simp; omega, by simp only; rw [hR]; rfl⟩, ?_⟩
        · rw [he]
          exact ⟨leOb_refl _, ⟨rfl, rfl, by simp, fun k hk j hj => dmL_snoc acc r.d k j hk hj⟩, trivial⟩
        · simp only
          rw [redR_eq hR]; exact hp
  · rw [if_neg (of_decide_eq_false hlt)] at hR
    injection hR with hR
    rw [← hR] at hp
    exact Outs.mk (hp.1 rfl) (leL_refl _) (leOO_refl _)

theorem rlLF_ok {g : Nat} : LFok (reEnv g) (rlLF g) rlLoop := by
  intro svs obl args obs out h
  unfold rlLF at h
  simp only at h
  repeat' split at h
  all_goals first
    | (simp only [Option.some.injEq, Prod.mk.injEq] at h; obtain ⟨rfl, rfl, rfl⟩ := h; apply rlLoop_sound)
    | cases h
theorem reEnv_Lok {g : Nat} : (reEnv g).Lok (loopsOf (bodyOf c_Read)) := by
  have hl : loopsOf (bodyOf c_Read) = [rlLoop] := by kernel_rfl
  rw [hl]
  refine fnE_Lok fun f h c hc hr => ?_
  rw [List.mem_singleton] at hc h
  subst hc; subst h
  exact rlLF_ok

theorem read_ctr (g : Nat) (s : ByteArray) : Ctr prog f_Read [vS s] [] (readO g s) := by
  refine ctr_fn mixed (N := 46) (fn := c_Read) (c := bodyOf c_Read) (ks := reKs g) (ls := [rlLF g]) (by kernel_rfl) (by kernel_rfl) (by kernel_rfl) (reKs_ok g) fin0 reEnv_Lok (by kernel_rfl) (Q := readQ s g) (fun post hp => ?_) (fun R => by kernel_rfl)
  obtain ⟨⟨hs, hsome⟩, hp⟩ := hp
  have hp : post (.tup [dmA (readR g s).l, vI .i64 (readR g s).i, vI .i64 (readR g s).e], []) := hp
  obtain ⟨R, hR⟩ := Option.isSome_iff_exists.1 hsome
  rw [readR_eq hR] at hp
  have hR' : redS s g (blk s 0) 0 nilD = some R := hR
  have eR := redR_eq hR'
  have b1 := blk_ge s 0
  have b2 := blk_le s 0 (by omega)
  obtain ⟨k1, k2⟩ := redS_shape _ _ _ _ _ _ hR
  unfold readQ
  refine ⟨fun h => absurd (of_decide_eq_true h) (by omega), fun _ => ⟨leL_refl _, ⟨⟨rfl, leS_refl _, (leS_ki _ _ _).2 rfl, (leS_ki _ _ _).2 rfl, (leS_ki _ _ _).2 rfl, trivial⟩, trivial⟩, ⟨hs, by omega, by omega⟩, ⟨leS_refl _, leS_refl _, leS_refl _, trivial⟩,
    ⟨leOb_refl _, ⟨rfl, rfl, rfl, fun k hk => absurd hk (by simp)⟩, trivial⟩, ⟨Nat.le_refl _, ⟨hs, by omega, b2⟩, ⟨by omega, by omega⟩, by simp [nilD], by rw [hR']; rfl⟩, fun he => ⟨leL_refl _, trivial, trivial, ?_⟩, fun he => ⟨trivial, ?_⟩⟩⟩
  · rw [eR] at he ⊢
    have he : R.e = 0 := by simpa using he
    refine gives1 hp ?_
    rw [he, k1 he]
    exact leS_refl _
  · rw [eR] at he ⊢
    have he : R.e ≠ 0 := by simpa using he
    refine gives1 hp ?_
    rw [k2 he]
    simp only [leS_tup, leL_cons, leL_nil, and_true]
    refine ⟨?_, leS_refl _, leS_refl _⟩
    unfold dmA
    rw [leS_dt]
    simp only [leDt]
    exact ⟨rfl, rfl⟩
theorem readF_ok (g : Nat) : (readF g).Ok prog := by
  intro al ol args obs out h
  unfold readF at h
  simp only at h
  repeat' split at h
  all_goals first
    | (simp only [Option.some.injEq, Prod.mk.injEq] at h; obtain ⟨rfl, rfl, rfl⟩ := h; apply read_ctr)
    | cases h
end Rd
