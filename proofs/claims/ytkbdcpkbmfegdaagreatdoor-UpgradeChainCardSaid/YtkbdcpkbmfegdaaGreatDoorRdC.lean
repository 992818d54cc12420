/- The reader's recursion. -/
import Derived.Test.YtkbdcpkbmfegdaaGreatDoorRdB
set_option linter.unusedSimpArgs false
set_option linter.unusedVariables false
open Rx Go
namespace Rd
theorem Ul : noF.Ok prog := by
 intro al ol args obs out h
 cases h
theorem Od {g : Nat} (hD : (Bj g).Ok prog) : ∀ x ∈ VT g, x.2.2.Ok prog :=
 all_cons Gy (all_cons yC (all_cons yC (all_cons yC (all_cons yC (all_cons hD (all_cons Ul (all_cons Gy (all_cons hD (all_cons ZU all_nil)))))))))
theorem zW {s : ByteArray} {f g : Nat} {lv a c : Int} {r : PR} (h : f <= g) (hr : jc s f lv a c = some r) : aZ s g lv a c = r := by
 unfold aZ
 rw [kH h hr]; rfl
theorem Ih {s : ByteArray} {f : Nat} {lv a c : Int} {acc : List Dm} {r : PR} (hr : kY s f lv a c acc = some r) : kX s f lv a c acc = r := by
 unfold kX
 rw [hr]; rfl
theorem Ie {g : Nat} (hD : (Bj g).Ok prog) (s : ByteArray) (lv : Int) (x : LX) : Sound (SE g) (.loop Ic) (jZ ((Kc g).live.h.zip (MI lv)) (TU s x)) ((TV s g lv x).map (OutC.st (Kc g).live)) := by
 refine r9 mixed (ks := VT g) (ls := [Kc g]) (c := Ic) (nb := 1) (N := 153) (Od hD) (gT (by kernel_rfl)) (Kc g).live (fun _ : LX => MI lv) (fun x => TU s x) (fun x => TV s g lv x) (fun x => x.f)
  (Q := fun x => Oz s g lv x.a x.c x.acc) (fun x post hp => ?_) (fun a Rn Re => by kernel_rfl) x
 obtain ⟨f, a, c, acc⟩ := x
 obtain ⟨⟨hf, hs, hc, ⟨hl1, hl2⟩, ha, hsome⟩, hp⟩ := hp
 have hp : post (.ret, [.ptr 1 0], [some (pOb s (kX s f lv a c acc).a (kX s f lv a c acc).c (kX s f lv a c acc).e),
  some (.cells lH [vI .i64 4, vI .i64 0, vS noS, .nm 2]), some (.row lH 4 (kX s f lv a c acc).d.l.length (dmL (kX s f lv a c acc).d.l))]) := hp
 obtain ⟨R, hR⟩ := Option.isSome_iff_exists.1 hsome
 have eR := Ih hR
 simp only at hf hs hc ha hR
 have b1 := xG s a
 have b2 := xH s a hs.2.2
 have hb : okS s (blk s a) := ⟨hs.1, by have := hs.2.1; omega, b2⟩
 cases f with
 | zero => simp [kY] at hR
 | succ f =>
 have call : ¬ (blk s a < s.size /\ au s (blk s a) = 41) -> ∃ r, jc s f (lv + 1) (blk s a) c = some r /\ (if r.e ≠ 0 then R = ⟨.mk 4 0 noS acc, r.a, r.c, r.e⟩ else kY s f lv r.a r.c (acc ++ [r.d]) = some R) := fun h => by
  rw [kY, if_neg h] at hR
  split at hR
  · cases hR
  · rename_i r hr
    refine ⟨r, hr, ?_⟩
    split at hR
    · rename_i g; rw [if_pos g]; injection hR with hR; exact hR.symm
    · rename_i g; rw [if_neg g]; exact hR
 unfold Oz
 simp only [lo, hi]
 have part : ¬ (blk s a < s.size /\ au s (blk s a) = 41) -> _ := fun h => call h
 refine ⟨aH _, aU _, hs, fun _ => ⟨fun hlt => ⟨⟨hb.2.1, of_decide_eq_true hlt⟩, fun h41 => ⟨⟨by have := hb.2.1; omega, by have := hs.1; omega⟩, ?_⟩, fun h41 => ?_⟩, fun hlt => ?_⟩, fun h => (by cases h)⟩
 · have hlt := of_decide_eq_true hlt
   have h41 : au s (blk s a) = 41 := by simpa using h41
   rw [kY, if_pos ⟨hlt, h41⟩] at hR
   injection hR with hR
   rw [eR, ← hR] at hp
   exact mR.mk hp (aH _) (aM _)
 all_goals
  obtain ⟨r, hr, hRr⟩ := call (by first | (rintro ⟨_, h⟩; simp [h] at h41; done) | (rintro ⟨h, _⟩; simp [h] at hlt; done))
  have er := zW (g := g) (by omega : f <= g) hr
  obtain ⟨k1, k2, k3, k4⟩ := (zX s f).1 _ _ _ _ hr hb hc
  refine ⟨⟨by omega, by omega⟩, aH _, aU _, ⟨hb, hc, ⟨by omega, by omega⟩, by rw [kH (by omega : f <= g) hr]; rfl⟩, fun he => ?_, fun he => ⟨by have := hc.2; omega, ?_⟩⟩
  · rw [er] at he ⊢
    have he : r.e ≠ 0 := by simpa using he
    rw [if_pos he] at hRr
    rw [eR, hRr] at hp
    exact mR.mk hp (aH _) (aM _)
  · rw [er] at he ⊢
    have he : r.e = 0 := by simpa using he
    rw [if_neg (by simpa using he)] at hRr
    rw [eR] at hp
    refine ⟨⟨f, r.a, r.c, acc ++ [r.d]⟩, Nat.lt_succ_self f, aH _, ?_, ⟨by simp only; omega, k1, ⟨Int.le_trans hc.1 k3, k2 he⟩, ⟨hl1, hl2⟩, by have := k4 he; simp; omega, by simp only; rw [hRr]; rfl⟩, ?_⟩
    · rw [he]
      refine ⟨gF _, gF _, gF _, ⟨rfl, rfl, by simp, fun k hk j hj => JK acc r.d k j hk hj⟩, trivial⟩
    · simp only
      have : post (.ret, [.ptr 1 0], [some (pOb s (kX s f lv r.a r.c (acc ++ [r.d])).a (kX s f lv r.a r.c (acc ++ [r.d])).c (kX s f lv r.a r.c (acc ++ [r.d])).e),
        some (.cells lH [vI .i64 4, vI .i64 0, vS noS, .nm 2]), some (.row lH 4 (kX s f lv r.a r.c (acc ++ [r.d])).d.l.length (dmL (kX s f lv r.a r.c (acc ++ [r.d])).d.l))]) := by
        rw [Ih hRr]; exact hp
      exact this
end Rd
set_option linter.unusedSimpArgs false
set_option linter.unusedVariables false
open Rx Go
namespace Rd
theorem WB {g : Nat} (hD : (Bj g).Ok prog) : Lp (SE g) (Kc g) Ic := by
 intro svs obl args obs out h
 unfold Kc at h
 simp only at h
 repeat' split at h
 all_goals first
  | (simp only [Option.some.injEq, Prod.mk.injEq] at h; obtain ⟨rfl, rfl, rfl⟩ := h; apply Ie hD)
  | cases h
theorem Qd {g : Nat} (hD : (Bj g).Ok prog) : (SE g).Lok (bM (bP vE)) := by
 have hl : bM (bP vE) = [Ic] := by kernel_rfl
 rw [hl]
 refine lW fun f h c hc hr => ?_
 rw [List.mem_singleton] at hc h
 subst hc; subst h
 exact WB hD
theorem UH (d : Dm) : leS (.agg [vI .i64 4, .ki .i64 0, vS ⟨#[]⟩, .dt (.arr 4 2 (ni 4 [Dt.cell (.int .i64 3), .cell (.int .i64 0), .cell (.string oH), .cell (.slice none 0 0), .cell (.int .i64 d.k), .cell (.int .i64 d.n), .cell (.string d.s), .arr 4 d.l.length (dmL d.l)]))]) (dmS (.mk 4 0 noS [.mk 3 0 oH [], d])) := by
 simp only [dmS, dmA, Dm.k, Dm.n, Dm.s, Dm.l, H9, wB, Af, and_true]
 refine ⟨aJ _, (ow _ _ _).2 rfl, aJ _, ?_⟩
 rw [Ia, TR]
 refine ⟨rfl, .inr ⟨rfl, fun k hk j hj => ?_⟩⟩
 rw [Ah hj (by simp; omega)]
 match k, hk with
 | 0, _ =>
   match j, hj with
   | 0, _ => simp [dmL, dmT, dw]
   | 1, _ => simp [dmL, dmT, dw]
   | 2, _ => simp [dmL, dmT, dw]
   | 3, _ => simp [dmL, dmT, dw, isNil]
 | 1, _ =>
   have e : dmL [.mk 3 0 oH [], d] 1 j = dmT d j := by simp [dmL]
   rw [e, SN d j hj]
   match j, hj with
   | 0, _ => exact dY _
   | 1, _ => exact dY _
   | 2, _ => exact dY _
   | 3, _ => exact dY _
theorem LY {g : Nat} (hD : (Bj g).Ok prog) (s : ByteArray) (lv a c : Int) : Ctr prog G6 [.ptr 0 0, vI .i64 lv] [pOb s a c 0] (LV s (g + 1) lv a c) := by
 refine jL mixed (N := 153) (fn := vE) (c := bP vE) (ks := VT g) (ls := [Kc g]) (by kernel_rfl) (by kernel_rfl) (by kernel_rfl) (Od hD) ⟨true, none⟩ (Qd hD) (by kernel_rfl) (Q := SF s g lv a c) (fun post hp => ?_) (fun R => by kernel_rfl)
 obtain ⟨⟨hs, hc, hl, hsome⟩, hp⟩ := hp
 have hp : post (dmS (aZ s (g + 1) lv a c).d, [some (pOb s (aZ s (g + 1) lv a c).a (aZ s (g + 1) lv a c).c (aZ s (g + 1) lv a c).e)]) := hp
 obtain ⟨R, hR⟩ := Option.isSome_iff_exists.1 hsome
 rw [zW (Nat.le_refl _) hR] at hp
 have b1 := xG s a
 have b2 := xH s a hs.2.2
 have hb : okS s (blk s a) := ⟨hs.1, by have := hs.2.1; omega, b2⟩
 have hcl := hc.1
 have hcu := hc.2
 have hl1 := hl.1
 have hl2 := hl.2
 have hs1 := hs.1
 have hb0 := hb.2.1
 have leaf : ∀ {v : SV} {d : Dm} {a c e : Int}, R = ⟨d, a, c, e⟩ -> leS v (dmS d) -> Gives post v [some (pOb s a c e)] := fun h hv => by
  rw [h] at hp; exact mI hp hv (aM _)
 rw [jc] at hR
 unfold SF
 simp only [lo, hi]
 refine ⟨aH _, aU _, hs, fun h => (by cases h), fun _ => ⟨fun h => ⟨aH _, aU _, trivial, ?_⟩, fun h1 => ⟨⟨by omega, by omega⟩, fun h => ⟨aH _, aU _, trivial, ?_⟩, fun h2 =>
  ⟨fun h => ⟨aH _, aU _, trivial, ?_⟩, fun h3 => ?_⟩⟩⟩⟩
 · have h : blk s a = s.size := by simpa using h
   rw [if_pos h] at hR
   injection hR with hR
   exact leaf hR.symm (aJ _)
 · have h1 : ¬ blk s a = s.size := by simpa using h1
   rw [if_neg h1, if_pos (of_decide_eq_true h)] at hR
   injection hR with hR
   exact leaf hR.symm (aJ _)
 · have h1 : ¬ blk s a = s.size := by simpa using h1
   rw [if_neg h1, if_neg (of_decide_eq_false h2), if_pos (of_decide_eq_true h)] at hR
   injection hR with hR
   exact leaf hR.symm (aJ _)
 have h1 : ¬ blk s a = s.size := by simpa using h1
 have h2 := of_decide_eq_false h2
 have h3 := of_decide_eq_false h3
 rw [if_neg h1, if_neg h2, if_neg h3] at hR
 have hb1 : okS s (blk s a + 1) := ⟨hs1, by omega, by omega⟩
 have hc1 : okC (c + 1) := ⟨by omega, by omega⟩
 refine ⟨⟨hb0, by omega⟩, fun h => ⟨aH _, aU _, trivial, ?_⟩, fun h41 => ?_⟩
 · have h : au s (blk s a) = 41 := by simpa using h
   rw [if_pos h] at hR
   injection hR with hR
   exact leaf hR.symm (aJ _)
 have h41 : ¬ au s (blk s a) = 41 := by simpa using h41
 rw [if_neg h41] at hR
 refine ⟨fun h => ?_, fun h39 => ?_⟩
 · have h : au s (blk s a) = 39 := by simpa using h
   rw [if_pos h] at hR
   obtain ⟨r, hr, hRr⟩ := Option.map_eq_some_iff.1 hR
   refine ⟨⟨by omega, by omega⟩, ⟨by omega, by omega⟩, aH _, aU _, ⟨hb1, hc1, ⟨by omega, by omega⟩, by rw [hr]; rfl⟩, trivial, ?_⟩
   rw [zW (Nat.le_refl _) hr]
   exact leaf hRr.symm (UH r.d)
 have h39 : ¬ au s (blk s a) = 39 := by simpa using h39
 rw [if_neg h39] at hR
 refine ⟨fun h => ?_, fun h40 => ?_⟩
 · have h : au s (blk s a) = 40 := by simpa using h
   rw [if_pos h] at hR
   obtain ⟨k1, k2, k3, k4⟩ := (zX s g).2 _ _ _ _ _ hR hb1 hc1
   refine ⟨⟨by omega, by omega⟩, ⟨aJ _, aJ _, aJ _, aJ _, trivial⟩, ?_, ⟨Nat.le_refl _, hb1, hc1, ⟨by omega, by omega⟩, by simp [iy]; omega, by
    show (kY s g lv (blk s a + 1) (c + 1) []).isSome = true
    rw [hR]; rfl⟩, trivial, ?_⟩
   · exact ⟨gF _, gF _, ⟨rfl, aJ _, (ow _ _ _).2 rfl, aJ _, aJ _, trivial⟩, ⟨rfl, rfl, rfl, fun k hk => absurd hk (by simp)⟩, trivial⟩
   · have e : kX s g lv (blk s a + 1) (c + 1) iy = R := Ih hR
     rw [e]
     refine leaf (d := .mk 4 0 noS R.d.l) (a := R.a) (c := R.c) (e := R.e) (by rw [← k4]) (aJ _)
 · have h40 : ¬ au s (blk s a) = 40 := by simpa using h40
   rw [if_neg h40] at hR
   injection hR with hR
   exact ⟨aH _, aU _, ⟨hb, hb0, Int.le_refl _⟩, trivial, leaf hR.symm (aJ _)⟩
theorem VU : ∀ f : Nat, (Bj f).Ok prog := by
 have key : ∀ f : Nat, (∀ (s : ByteArray) (lv a c : Int), Ctr prog G6 [.ptr 0 0, vI .i64 lv] [pOb s a c 0] (LV s f lv a c)) -> (Bj f).Ok prog := by
  intro f hf al ol args obs out h
  unfold Bj at h
  simp only at h
  repeat' split at h
  all_goals first
   | (simp only [Option.some.injEq, Prod.mk.injEq] at h; obtain ⟨rfl, rfl, rfl⟩ := h; apply hf)
   | cases h
 intro f
 induction f with
 | zero => exact key 0 fun s lv a c => Bc fun h => by obtain ⟨_, _, _, h⟩ := h; simp [jc] at h
 | succ f ih => exact key (f + 1) fun s lv a c => LY ih s lv a c
end Rd
set_option linter.unusedSimpArgs false
set_option linter.unusedVariables false
open Rx Go
namespace Rd
structure RR where
 l : List Dm
 i : Int
 e : Int
instance : Inhabited RR := ⟨⟨[], 0, 0⟩⟩
def mM (s : ByteArray) : Nat -> Int -> Int -> List Dm -> Option RR
 | 0, _, _, _ => none
 | f + 1, a, c, acc =>
   if a < s.size then match jc s f 1 a c with
     | none => none
     | some r => if r.e ≠ 0 then some ⟨[], r.a, r.e⟩ else mM s f (blk s r.a) r.c (acc ++ [r.d])
   else some ⟨acc, 0, 0⟩
def wP (s : ByteArray) (f : Nat) (a c : Int) (acc : List Dm) : RR := (mM s f a c acc).getD default
def qX (f : Nat) (s : ByteArray) : Option RR := mM s f (blk s 0) 0 []
def lq (f : Nat) (s : ByteArray) : RR := (qX f s).getD default
def ac6 (f : Nat) (s : ByteArray) : T Out := .need (s.size <= 3000 /\ (qX f s).isSome = true) (.ret (.tup [dmA (lq f s).l, vI .i64 (lq f s).i, vI .i64 (lq f s).e], []))
def MZ (s : ByteArray) : List SV := [vS s, .ptr 0 0, .nm 1]
def UO (s : ByteArray) (x : LX) : List (Option Ob) := [some (pOb s x.a x.c 0), some (.row lH 4 x.acc.length (dmL x.acc))]
def ZB (s : ByteArray) (r : RR) : T OutC := .ite (r.e == 0) (.ret (.exit 0, [.nm 0], [some (.row lH 4 r.l.length (dmL r.l))])) (.ret (.ret, [.dt (.cell (.slice none 0 0)), vI .i64 r.i, vI .i64 r.e], []))
def UQ (s : ByteArray) (g : Nat) (x : LX) : T OutC := .need (x.f <= g /\ okS s x.a /\ okC x.c /\ x.acc.length <= x.c /\ (mM s x.f x.a x.c x.acc).isSome = true) (ZB s (wP s x.f x.a x.c x.acc))
def KR (g : Nat) : LF := ⟨6, ⟨[0, 5, 6], [6], [2, 3, 4]⟩, fun svs obl => match svs, obl with
 | [_, .ptr 0 0, .nm 1], some (.cells _ [s, a, c, _]) :: _ => match rdS s, rdI a, rdI c with
   | some s, some a, some c => some (MZ s, UO s ⟨g, a, c, iy⟩, UQ s g ⟨g, a, c, iy⟩)
   | _, _, _ => none
 | _, _ => none⟩
def Xb (g : Nat) : List (Nat × Nat × FC) := [(4, 0, noF), (5, 1, bkF), (8, 1, Bj g), (7, 1, bkF), (12, 1, clF)]
noncomputable def UJ (g : Nat) : Env := fnE prog 46 0 (Xb g) [KR g]
noncomputable def IK : Code := (jO 6 (bP AY)).getD .skip
def O4 (s : ByteArray) (g : Nat) (a c : Int) (acc : List Dm) (Rn : List SV -> List (Option Ob) -> Prop) (Re : Ex -> List SV -> List (Option Ob) -> Prop) : Prop :=
(((decide (a < (↑s.size : Int)) = true) ->
 ((Rx.leL ([SV.ptr 0 0, SV.dt (Dt.cell (.int .i64 (1 : Int)))]) ([SV.ptr 0 0, SV.dt (Dt.cell (.int .i64 (1 : Int)))])) /\
  ((Rx.bI ([Ob.cells 133 [SV.dt (Dt.cell (.string s)), SV.dt (Dt.cell (.int .i64 a)), SV.dt (Dt.cell (.int .i64 c)), SV.dt (Dt.cell (.int .i64 (0 : Int)))]]) ([Ob.cells 133 [SV.dt (Dt.cell (.string s)), SV.dt (Dt.cell (.int .i64 a)), SV.dt (Dt.cell (.int .i64 c)), SV.dt (Dt.cell (.int .i64 (0 : Int)))]])) /\
   (((Rd.okS s a) /\
     ((Rd.okC c) /\
      ((Rd.okL (1 : Int)) /\
       ((Rd.jc s g (1 : Int) a c).isSome = true)))) /\
    (((((Rd.aZ s g (1 : Int) a c).e != (0 : Int)) = true) ->
      Re (Rx.Ex.ret) ([SV.dt (Dt.cell (.slice Option.none (0 : Nat) (0 : Nat))), SV.dt (Dt.cell (.int .i64 (Rd.aZ s g (1 : Int) a c).a)), SV.dt (Dt.cell (.int .i64 (Rd.aZ s g (1 : Int) a c).e))]) ([])) /\
     ((((Rd.aZ s g (1 : Int) a c).e != (0 : Int)) = false) ->
      (((acc.length + (1 : Nat)) * (56 : Nat) <= (140737488355328 : Nat)) /\
       ((Rx.leL ([SV.ptr 0 0]) ([SV.ptr 0 0])) /\
        ((Rx.bI ([Ob.cells 133 [SV.dt (Dt.cell (.string s)), SV.dt (Dt.cell (.int .i64 (Rd.aZ s g (1 : Int) a c).a)), SV.dt (Dt.cell (.int .i64 (Rd.aZ s g (1 : Int) a c).c)), SV.dt (Dt.cell (.int .i64 (Rd.aZ s g (1 : Int) a c).e))]]) ([Ob.cells 133 [SV.dt (Dt.cell (.string s)), SV.dt (Dt.cell (.int .i64 (Rd.aZ s g (1 : Int) a c).a)), SV.dt (Dt.cell (.int .i64 (Rd.aZ s g (1 : Int) a c).c)), SV.dt (Dt.cell (.int .i64 (Rd.aZ s g (1 : Int) a c).e))]])) /\
         ((Rd.okS s (Rd.aZ s g (1 : Int) a c).a) /\
          Rn ([SV.dt (Dt.cell (.string s)), SV.ptr 0 0, SV.nm 1]) ([some (Ob.cells 133 [SV.dt (Dt.cell (.string s)), SV.dt (Dt.cell (.int .i64 (Rd.blk s (Rd.aZ s g (1 : Int) a c).a))), SV.dt (Dt.cell (.int .i64 (Rd.aZ s g (1 : Int) a c).c)), SV.dt (Dt.cell (.int .i64 (Rd.aZ s g (1 : Int) a c).e))]), some (Ob.row 25 4 (acc.length + (1 : Nat)) (Rx.fK acc.length (Rd.dmL acc) (Rx.ni (4 : Nat) [Rx.Dt.cell (.int .i64 (Rd.aZ s g (1 : Int) a c).d.k), Rx.Dt.cell (.int .i64 (Rd.aZ s g (1 : Int) a c).d.n), Rx.Dt.cell (.string (Rd.aZ s g (1 : Int) a c).d.s), Rx.Dt.arr (4 : Nat) (Rd.aZ s g (1 : Int) a c).d.l.length (Rd.dmL (Rd.aZ s g (1 : Int) a c).d.l)])))]))))))))))) /\
((decide (a < (↑s.size : Int)) = false) ->
 Re (Rx.Ex.exit (0 : Nat)) ([SV.nm 0]) ([some (Ob.row 25 4 (acc.length) (Rd.dmL acc))])))
def ZA (s : ByteArray) (g : Nat) (R : SV -> List (Option Ob) -> Prop) : Prop :=
(((decide ((↑s.size : Int) > (3000 : Int)) = true) ->
 (True /\
  R (SV.tup [SV.dt (Dt.cell (.slice Option.none (0 : Nat) (0 : Nat))), SV.dt (Dt.cell (.int .i64 (0 : Int))), SV.dt (Dt.cell (.int .i64 (1 : Int)))]) ([]))) /\
((decide ((↑s.size : Int) > (3000 : Int)) = false) ->
 ((Rx.leL ([SV.ptr 0 0]) ([SV.ptr 0 0])) /\
  ((Rx.bI ([Ob.cells 133 [SV.dt (Dt.cell (.string s)), SV.ki .i64 ((0 : Int)), SV.ki .i64 ((0 : Int)), SV.ki .i64 ((0 : Int))]]) ([Ob.cells 133 [SV.dt (Dt.cell (.string s)), SV.dt (Dt.cell (.int .i64 (0 : Int))), SV.dt (Dt.cell (.int .i64 (0 : Int))), SV.dt (Dt.cell (.int .i64 (0 : Int)))]])) /\
   ((Rd.okS s (0 : Int)) /\
    (((Rx.leS (SV.dt (Dt.cell (.string s))) (SV.dt (Dt.cell (.string s)))) /\
      ((Rx.leS (SV.ptr 0 0) (SV.ptr 0 0)) /\
       ((Rx.leS (SV.nm 1) (SV.nm 1)) /\
        True))) /\
     ((Rx.leOO ([some (Ob.cells 133 [SV.dt (Dt.cell (.string s)), SV.dt (Dt.cell (.int .i64 (Rd.blk s (0 : Int)))), SV.dt (Dt.cell (.int .i64 (0 : Int))), SV.dt (Dt.cell (.int .i64 (0 : Int)))]), some (Ob.row 25 4 ((0 : Nat)) (fun x x_1 => Rx.aW))]) ([some (Ob.cells 133 [SV.dt (Dt.cell (.string s)), SV.dt (Dt.cell (.int .i64 (Rd.blk s (0 : Int)))), SV.dt (Dt.cell (.int .i64 (0 : Int))), SV.dt (Dt.cell (.int .i64 (0 : Int)))]), some (Ob.row 25 4 (Rd.iy.length) (Rd.dmL Rd.iy))])) /\
      (((g <= g) /\
        ((Rd.okS s (Rd.blk s (0 : Int))) /\
         ((Rd.okC (0 : Int)) /\
          (((↑Rd.iy.length : Int) <= (0 : Int)) /\
           ((Rd.mM s g (Rd.blk s (0 : Int)) (0 : Int) Rd.iy).isSome = true))))) /\
       (((((Rd.wP s g (Rd.blk s (0 : Int)) (0 : Int) Rd.iy).e == (0 : Int)) = true) ->
         ((Rx.leL ([SV.dt (Dt.arr ((4 : Nat)) ((Rd.wP s g (Rd.blk s (0 : Int)) (0 : Int) Rd.iy).l.length) (Rd.dmL (Rd.wP s g (Rd.blk s (0 : Int)) (0 : Int) Rd.iy).l))]) ([SV.dt (Dt.arr ((4 : Nat)) ((Rd.wP s g (Rd.blk s (0 : Int)) (0 : Int) Rd.iy).l.length) (Rd.dmL (Rd.wP s g (Rd.blk s (0 : Int)) (0 : Int) Rd.iy).l))])) /\
          ((Rx.bI ([]) ([])) /\
           (True /\
            R (SV.tup [SV.dt (Dt.arr ((4 : Nat)) ((Rd.wP s g (Rd.blk s (0 : Int)) (0 : Int) Rd.iy).l.length) (Rd.dmL (Rd.wP s g (Rd.blk s (0 : Int)) (0 : Int) Rd.iy).l)), SV.dt (Dt.cell (.int .i64 (0 : Int))), SV.dt (Dt.cell (.int .i64 (0 : Int)))]) ([]))))) /\
        ((((Rd.wP s g (Rd.blk s (0 : Int)) (0 : Int) Rd.iy).e == (0 : Int)) = false) ->
         (True /\
          R (SV.tup [SV.dt (Dt.cell (.slice Option.none (0 : Nat) (0 : Nat))), SV.dt (Dt.cell (.int .i64 (Rd.wP s g (Rd.blk s (0 : Int)) (0 : Int) Rd.iy).i)), SV.dt (Dt.cell (.int .i64 (Rd.wP s g (Rd.blk s (0 : Int)) (0 : Int) Rd.iy).e))]) ([]))))))))))))
theorem CK (s : ByteArray) : ∀ (f : Nat) (a c : Int) (acc : List Dm) (r : RR), mM s f a c acc = some r -> (r.e = 0 -> r.i = 0) /\ (r.e ≠ 0 -> r.l = [])
 | 0, _, _, _, _, h => by simp [mM] at h
 | f + 1, a, c, acc, r, h => by
   rw [mM] at h
   split at h
   · split at h
     · cases h
     · rename_i q _
       split at h
       · rename_i g; injection h with h; subst h; exact ⟨fun h => absurd h g, fun _ => rfl⟩
       · exact CK s f _ _ _ _ h
   · injection h with h; subst h; exact ⟨fun _ => rfl, fun h => absurd rfl h⟩
theorem IE {s : ByteArray} {f : Nat} {a c : Int} {acc : List Dm} {r : RR} (hr : mM s f a c acc = some r) : wP s f a c acc = r := by
 unfold wP
 rw [hr]; rfl
theorem UK {f : Nat} {s : ByteArray} {r : RR} (hr : qX f s = some r) : lq f s = r := by
 unfold lq
 rw [hr]; rfl
theorem OT (g : Nat) : ∀ x ∈ Xb g, x.2.2.Ok prog := all_cons Ul (all_cons Gy (all_cons (VU g) (all_cons Gy (all_cons aac all_nil))))
theorem IL {g : Nat} (s : ByteArray) (x : LX) : Sound (UJ g) (.loop IK) (jZ ((KR g).live.h.zip (MZ s)) (UO s x)) ((UQ s g x).map (OutC.st (KR g).live)) := by
 refine r9 mixed (ks := Xb g) (ls := [KR g]) (c := IK) (nb := 0) (N := 46) (OT g) (gT (by kernel_rfl)) (KR g).live (fun _ : LX => MZ s) (fun x => UO s x) (fun x => UQ s g x) (fun x => x.f)
  (Q := fun x => O4 s g x.a x.c x.acc) (fun x post hp => ?_) (fun a Rn Re => by kernel_rfl) x
 obtain ⟨f, a, c, acc⟩ := x
 obtain ⟨⟨hf, hs, hc, ha, hsome⟩, hp0⟩ := hp
 obtain ⟨R, hR⟩ := Option.isSome_iff_exists.1 hsome
 have hp : (ZB s (wP s f a c acc)).holds post := hp0
 clear hp0
 rw [IE hR] at hp
 simp only at hf hs hc ha hR
 have hcl := hc.1
 have hcu := hc.2
 cases f with
 | zero => simp [mM] at hR
 | succ f =>
 rw [mM] at hR
 unfold O4
 refine ⟨fun hlt => ?_, fun hlt => ?_⟩
 · rw [if_pos (of_decide_eq_true hlt)] at hR
   split at hR
   · cases hR
   · rename_i r hr
     have er := zW (g := g) (by omega : f <= g) hr
     obtain ⟨k1, k2, k3, k4⟩ := (zX s f).1 _ _ _ _ hr hs hc
     refine ⟨aH _, aU _, ⟨hs, hc, ⟨by omega, by omega⟩, by rw [kH (by omega : f <= g) hr]; rfl⟩, fun he => ?_, fun he => ⟨by show (acc.length + 1) * 56 <= 140737488355328; omega, aH _, aU _, by rw [er]; exact k1, ?_⟩⟩
     · rw [er] at he ⊢
       have he : r.e ≠ 0 := by simpa using he
       rw [if_pos he] at hR
       injection hR with hR
       rw [← hR] at hp
       exact mR.mk (hp.2 (by simpa using he)) (aH _) (aM _)
     · rw [er] at he ⊢
       have he : r.e = 0 := by simpa using he
       rw [if_neg (by simpa using he)] at hR
       have c1 := xG s r.a
       have c2 := xH s r.a k1.2.2
       refine ⟨⟨f, blk s r.a, r.c, acc ++ [r.d]⟩, Nat.lt_succ_self f, aH _, ?_, ⟨by simp only; omega, ⟨k1.1, by have := k1.2.1; simp only; omega, c2⟩, ⟨Int.le_trans hcl k3, k2 he⟩, by have := k4 he; simp; omega, by simp only; rw [hR]; rfl⟩, ?_⟩
       · rw [he]
         exact ⟨gF _, ⟨rfl, rfl, by simp, fun k hk j hj => JK acc r.d k j hk hj⟩, trivial⟩
       · simp only
         rw [IE hR]; exact hp
 · rw [if_neg (of_decide_eq_false hlt)] at hR
   injection hR with hR
   rw [← hR] at hp
   exact mR.mk (hp.1 rfl) (aH _) (aM _)
theorem Xh {g : Nat} : Lp (UJ g) (KR g) IK := by
 intro svs obl args obs out h
 unfold KR at h
 simp only at h
 repeat' split at h
 all_goals first
  | (simp only [Option.some.injEq, Prod.mk.injEq] at h; obtain ⟨rfl, rfl, rfl⟩ := h; apply IL)
  | cases h
theorem QI {g : Nat} : (UJ g).Lok (bM (bP AY)) := by
 have hl : bM (bP AY) = [IK] := by kernel_rfl
 rw [hl]
 refine lW fun f h c hc hr => ?_
 rw [List.mem_singleton] at hc h
 subst hc; subst h
 exact Xh
theorem UL (g : Nat) (s : ByteArray) : Ctr prog L9 [vS s] [] (ac6 g s) := by
 refine jL mixed (N := 46) (fn := AY) (c := bP AY) (ks := Xb g) (ls := [KR g]) (by kernel_rfl) (by kernel_rfl) (by kernel_rfl) (OT g) Bp QI (by kernel_rfl) (Q := ZA s g) (fun post hp => ?_) (fun R => by kernel_rfl)
 obtain ⟨⟨hs, hsome⟩, hp⟩ := hp
 have hp : post (.tup [dmA (lq g s).l, vI .i64 (lq g s).i, vI .i64 (lq g s).e], []) := hp
 obtain ⟨R, hR⟩ := Option.isSome_iff_exists.1 hsome
 rw [UK hR] at hp
 have hR' : mM s g (blk s 0) 0 iy = some R := hR
 have eR := IE hR'
 have b1 := xG s 0
 have b2 := xH s 0 (by omega)
 obtain ⟨k1, k2⟩ := CK _ _ _ _ _ _ hR
 unfold ZA
 refine ⟨fun h => absurd (of_decide_eq_true h) (by omega), fun _ => ⟨aH _, ⟨⟨rfl, aJ _, (ow _ _ _).2 rfl, (ow _ _ _).2 rfl, (ow _ _ _).2 rfl, trivial⟩, trivial⟩, ⟨hs, by omega, by omega⟩, ⟨aJ _, aJ _, aJ _, trivial⟩,
  ⟨gF _, ⟨rfl, rfl, rfl, fun k hk => absurd hk (by simp)⟩, trivial⟩, ⟨Nat.le_refl _, ⟨hs, by omega, b2⟩, ⟨by omega, by omega⟩, by simp [iy], by rw [hR']; rfl⟩, fun he => ⟨aH _, trivial, trivial, ?_⟩, fun he => ⟨trivial, ?_⟩⟩⟩
 · rw [eR] at he ⊢
   have he : R.e = 0 := by simpa using he
   refine xQ hp ?_
   rw [he, k1 he]
   exact aJ _
 · rw [eR] at he ⊢
   have he : R.e ≠ 0 := by simpa using he
   refine xQ hp ?_
   rw [k2 he]
   simp only [Wz, wB, Af, and_true]
   refine ⟨?_, aJ _, aJ _⟩
   unfold dmA
   rw [Ia]
   simp only [dw]
   exact ⟨rfl, rfl⟩
end Rd
