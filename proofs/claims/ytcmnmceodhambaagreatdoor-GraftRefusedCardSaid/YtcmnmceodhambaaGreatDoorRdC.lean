/- The reader's recursion. -/
import Derived.Test.YtcmnmceodhambaaGreatDoorRdB
set_option linter.unusedSimpArgs false
set_option linter.unusedVariables false
open Rx Go
namespace Rd
theorem Q6 : noF.Ok prog := by
 intro al ol args obs out h
 cases h
theorem Nc {g : Nat} (hD : (CJ g).Ok prog) : ∀ x ∈ TI g, x.2.2.Ok prog :=
 all_cons FD (all_cons xQ (all_cons xQ (all_cons xQ (all_cons xQ (all_cons hD (all_cons Q6 (all_cons FD (all_cons hD (all_cons WG all_nil)))))))))
theorem zF {s : ByteArray} {f g : Nat} {lv a c : Int} {r : PR} (h : f <= g) (hr : iI s f lv a c = some r) : aY s g lv a c = r := by
 unfold aY
 rw [kL h hr]; rfl
theorem Gb {s : ByteArray} {f : Nat} {lv a c : Int} {acc : List Dm} {r : PR} (hr : lJ s f lv a c acc = some r) : lC s f lv a c acc = r := by
 unfold lC
 rw [hr]; rfl
theorem F5 {g : Nat} (hD : (CJ g).Ok prog) (s : ByteArray) (lv : Int) (x : LX) : Sound (Pk g) (.loop F3) (jW ((JE g).live.h.zip (Lr lv)) (Qv s x)) ((Q8 s g lv x).map (OutC.st (JE g).live)) := by
 refine sS mixed (ks := TI g) (ls := [JE g]) (c := F3) (nb := 1) (N := 153) (Nc hD) (gD (by kernel_rfl)) (JE g).live (fun _ : LX => Lr lv) (fun x => Qv s x) (fun x => Q8 s g lv x) (fun x => x.f)
  (Q := fun x => Nj s g lv x.a x.c x.acc) (fun x post hp => ?_) (fun a Rn Re => by kernel_rfl) x
 obtain ⟨f, a, c, acc⟩ := x
 obtain ⟨⟨hf, hs, hc, ⟨hl1, hl2⟩, ha, hsome⟩, hp⟩ := hp
 have hp : post (.ret, [.ptr 1 0], [some (pOb s (lC s f lv a c acc).a (lC s f lv a c acc).c (lC s f lv a c acc).e),
  some (.cells lI [vI .i64 4, vI .i64 0, vS noS, .nm 2]), some (.row lI 4 (lC s f lv a c acc).d.l.length (dmL (lC s f lv a c acc).d.l))]) := hp
 obtain ⟨R, hR⟩ := Option.isSome_iff_exists.1 hsome
 have eR := Gb hR
 simp only at hf hs hc ha hR
 have b1 := xR s a
 have b2 := wZ s a hs.2.2
 have hb : okS s (blk s a) := ⟨hs.1, by have := hs.2.1; omega, b2⟩
 cases f with
 | zero => simp [lJ] at hR
 | succ f =>
 have call : ¬ (blk s a < s.size /\ av s (blk s a) = 41) -> ∃ r, iI s f (lv + 1) (blk s a) c = some r /\ (if r.e ≠ 0 then R = ⟨.mk 4 0 noS acc, r.a, r.c, r.e⟩ else lJ s f lv r.a r.c (acc ++ [r.d]) = some R) := fun h => by
  rw [lJ, if_neg h] at hR
  split at hR
  · cases hR
  · rename_i r hr
    refine ⟨r, hr, ?_⟩
    split at hR
    · rename_i g; rw [if_pos g]; injection hR with hR; exact hR.symm
    · rename_i g; rw [if_neg g]; exact hR
 unfold Nj
 simp only [lo, hi]
 have part : ¬ (blk s a < s.size /\ av s (blk s a) = 41) -> _ := fun h => call h
 refine ⟨aG _, aT _, hs, fun _ => ⟨fun hlt => ⟨⟨hb.2.1, of_decide_eq_true hlt⟩, fun h41 => ⟨⟨by have := hb.2.1; omega, by have := hs.1; omega⟩, ?_⟩, fun h41 => ?_⟩, fun hlt => ?_⟩, fun h => (by cases h)⟩
 · have hlt := of_decide_eq_true hlt
   have h41 : av s (blk s a) = 41 := by simpa using h41
   rw [lJ, if_pos ⟨hlt, h41⟩] at hR
   injection hR with hR
   rw [eR, ← hR] at hp
   exact nI.mk hp (aG _) (aN _)
 all_goals
  obtain ⟨r, hr, hRr⟩ := call (by first | (rintro ⟨_, h⟩; simp [h] at h41; done) | (rintro ⟨h, _⟩; simp [h] at hlt; done))
  have er := zF (g := g) (by omega : f <= g) hr
  obtain ⟨k1, k2, k3, k4⟩ := (zW s f).1 _ _ _ _ hr hb hc
  refine ⟨⟨by omega, by omega⟩, aG _, aT _, ⟨hb, hc, ⟨by omega, by omega⟩, by rw [kL (by omega : f <= g) hr]; rfl⟩, fun he => ?_, fun he => ⟨by have := hc.2; omega, ?_⟩⟩
  · rw [er] at he ⊢
    have he : r.e ≠ 0 := by simpa using he
    rw [if_pos he] at hRr
    rw [eR, hRr] at hp
    exact nI.mk hp (aG _) (aN _)
  · rw [er] at he ⊢
    have he : r.e = 0 := by simpa using he
    rw [if_neg (by simpa using he)] at hRr
    rw [eR] at hp
    refine ⟨⟨f, r.a, r.c, acc ++ [r.d]⟩, Nat.lt_succ_self f, aG _, ?_, ⟨by simp only; omega, k1, ⟨Int.le_trans hc.1 k3, k2 he⟩, ⟨hl1, hl2⟩, by have := k4 he; simp; omega, by simp only; rw [hRr]; rfl⟩, ?_⟩
    · rw [he]
      refine ⟨dO _, dO _, dO _, ⟨rfl, rfl, by simp, fun k hk j hj => JN acc r.d k j hk hj⟩, trivial⟩
    · simp only
      have : post (.ret, [.ptr 1 0], [some (pOb s (lC s f lv r.a r.c (acc ++ [r.d])).a (lC s f lv r.a r.c (acc ++ [r.d])).c (lC s f lv r.a r.c (acc ++ [r.d])).e),
        some (.cells lI [vI .i64 4, vI .i64 0, vS noS, .nm 2]), some (.row lI 4 (lC s f lv r.a r.c (acc ++ [r.d])).d.l.length (dmL (lC s f lv r.a r.c (acc ++ [r.d])).d.l))]) := by
        rw [Gb hRr]; exact hp
      exact this
end Rd
set_option linter.unusedSimpArgs false
set_option linter.unusedVariables false
open Rx Go
namespace Rd
theorem Ux {g : Nat} (hD : (CJ g).Ok prog) : KF (Pk g) (JE g) F3 := by
 intro svs obl args obs out h
 unfold JE at h
 simp only at h
 repeat' split at h
 all_goals first
  | (simp only [Option.some.injEq, Prod.mk.injEq] at h; obtain ⟨rfl, rfl, rfl⟩ := h; apply F5 hD)
  | cases h
theorem Oq {g : Nat} (hD : (CJ g).Ok prog) : (Pk g).Lok (bM (bO vF)) := by
 have hl : bM (bO vF) = [F3] := by kernel_rfl
 rw [hl]
 refine l8 fun f h c hc hr => ?_
 rw [List.mem_singleton] at hc h
 subst hc; subst h
 exact Ux hD
theorem Ql (d : Dm) : leS (.agg [vI .i64 4, .ki .i64 0, vS ⟨#[]⟩, .dt (.arr 4 2 (mQ 4 [Dt.cell (.int .i64 3), .cell (.int .i64 0), .cell (.string ow), .cell (.slice none 0 0), .cell (.int .i64 d.k), .cell (.int .i64 d.n), .cell (.string d.s), .arr 4 d.l.length (dmL d.l)]))]) (dmS (.mk 4 0 noS [.mk 3 0 ow [], d])) := by
 simp only [dmS, dmA, Dm.k, Dm.n, Dm.s, Dm.l, Gr, wS, zJ, and_true]
 refine ⟨aL _, (oz _ _ _).2 rfl, aL _, ?_⟩
 rw [G6, RV]
 refine ⟨rfl, .inr ⟨rfl, fun k hk j hj => ?_⟩⟩
 rw [zG hj (by simp; omega)]
 match k, hk with
 | 0, _ =>
   match j, hj with
   | 0, _ => simp [dmL, dmT, bY]
   | 1, _ => simp [dmL, dmT, bY]
   | 2, _ => simp [dmL, dmT, bY]
   | 3, _ => simp [dmL, dmT, bY, isNil]
 | 1, _ =>
   have e : dmL [.mk 3 0 ow [], d] 1 j = dmT d j := by simp [dmL]
   rw [e, P5 d j hj]
   match j, hj with
   | 0, _ => exact dA _
   | 1, _ => exact dA _
   | 2, _ => exact dA _
   | 3, _ => exact dA _
theorem Df {g : Nat} (hD : (CJ g).Ok prog) (s : ByteArray) (lv a c : Int) : Ctr prog zY [.ptr 0 0, vI .i64 lv] [pOb s a c 0] (Hg s (g + 1) lv a c) := by
 refine jS mixed (N := 153) (fn := vF) (c := bO vF) (ks := TI g) (ls := [JE g]) (by kernel_rfl) (by kernel_rfl) (by kernel_rfl) (Nc hD) ⟨true, none⟩ (Oq hD) (by kernel_rfl) (Q := PW s g lv a c) (fun post hp => ?_) (fun R => by kernel_rfl)
 obtain ⟨⟨hs, hc, hl, hsome⟩, hp⟩ := hp
 have hp : post (dmS (aY s (g + 1) lv a c).d, [some (pOb s (aY s (g + 1) lv a c).a (aY s (g + 1) lv a c).c (aY s (g + 1) lv a c).e)]) := hp
 obtain ⟨R, hR⟩ := Option.isSome_iff_exists.1 hsome
 rw [zF (Nat.le_refl _) hR] at hp
 have b1 := xR s a
 have b2 := wZ s a hs.2.2
 have hb : okS s (blk s a) := ⟨hs.1, by have := hs.2.1; omega, b2⟩
 have hcl := hc.1
 have hcu := hc.2
 have hl1 := hl.1
 have hl2 := hl.2
 have hs1 := hs.1
 have hb0 := hb.2.1
 have leaf : ∀ {v : SV} {d : Dm} {a c e : Int}, R = ⟨d, a, c, e⟩ -> leS v (dmS d) -> Gives post v [some (pOb s a c e)] := fun h hv => by
  rw [h] at hp; exact mO hp hv (aN _)
 rw [iI] at hR
 unfold PW
 simp only [lo, hi]
 refine ⟨aG _, aT _, hs, fun h => (by cases h), fun _ => ⟨fun h => ⟨aG _, aT _, trivial, ?_⟩, fun h1 => ⟨⟨by omega, by omega⟩, fun h => ⟨aG _, aT _, trivial, ?_⟩, fun h2 =>
  ⟨fun h => ⟨aG _, aT _, trivial, ?_⟩, fun h3 => ?_⟩⟩⟩⟩
 · have h : blk s a = s.size := by simpa using h
   rw [if_pos h] at hR
   injection hR with hR
   exact leaf hR.symm (aL _)
 · have h1 : ¬ blk s a = s.size := by simpa using h1
   rw [if_neg h1, if_pos (of_decide_eq_true h)] at hR
   injection hR with hR
   exact leaf hR.symm (aL _)
 · have h1 : ¬ blk s a = s.size := by simpa using h1
   rw [if_neg h1, if_neg (of_decide_eq_false h2), if_pos (of_decide_eq_true h)] at hR
   injection hR with hR
   exact leaf hR.symm (aL _)
 have h1 : ¬ blk s a = s.size := by simpa using h1
 have h2 := of_decide_eq_false h2
 have h3 := of_decide_eq_false h3
 rw [if_neg h1, if_neg h2, if_neg h3] at hR
 have hb1 : okS s (blk s a + 1) := ⟨hs1, by omega, by omega⟩
 have hc1 : okC (c + 1) := ⟨by omega, by omega⟩
 refine ⟨⟨hb0, by omega⟩, fun h => ⟨aG _, aT _, trivial, ?_⟩, fun h41 => ?_⟩
 · have h : av s (blk s a) = 41 := by simpa using h
   rw [if_pos h] at hR
   injection hR with hR
   exact leaf hR.symm (aL _)
 have h41 : ¬ av s (blk s a) = 41 := by simpa using h41
 rw [if_neg h41] at hR
 refine ⟨fun h => ?_, fun h39 => ?_⟩
 · have h : av s (blk s a) = 39 := by simpa using h
   rw [if_pos h] at hR
   obtain ⟨r, hr, hRr⟩ := Option.map_eq_some_iff.1 hR
   refine ⟨⟨by omega, by omega⟩, ⟨by omega, by omega⟩, aG _, aT _, ⟨hb1, hc1, ⟨by omega, by omega⟩, by rw [hr]; rfl⟩, trivial, ?_⟩
   rw [zF (Nat.le_refl _) hr]
   exact leaf hRr.symm (Ql r.d)
 have h39 : ¬ av s (blk s a) = 39 := by simpa using h39
 rw [if_neg h39] at hR
 refine ⟨fun h => ?_, fun h40 => ?_⟩
 · have h : av s (blk s a) = 40 := by simpa using h
   rw [if_pos h] at hR
   obtain ⟨k1, k2, k3, k4⟩ := (zW s g).2 _ _ _ _ _ hR hb1 hc1
   refine ⟨⟨by omega, by omega⟩, ⟨aL _, aL _, aL _, aL _, trivial⟩, ?_, ⟨Nat.le_refl _, hb1, hc1, ⟨by omega, by omega⟩, by simp [gK]; omega, by
    show (lJ s g lv (blk s a + 1) (c + 1) []).isSome = true
    rw [hR]; rfl⟩, trivial, ?_⟩
   · exact ⟨dO _, dO _, ⟨rfl, aL _, (oz _ _ _).2 rfl, aL _, aL _, trivial⟩, ⟨rfl, rfl, rfl, fun k hk => absurd hk (by simp)⟩, trivial⟩
   · have e : lC s g lv (blk s a + 1) (c + 1) gK = R := Gb hR
     rw [e]
     refine leaf (d := .mk 4 0 noS R.d.l) (a := R.a) (c := R.c) (e := R.e) (by rw [← k4]) (aL _)
 · have h40 : ¬ av s (blk s a) = 40 := by simpa using h40
   rw [if_neg h40] at hR
   injection hR with hR
   exact ⟨aG _, aT _, ⟨hb, hb0, Int.le_refl _⟩, trivial, leaf hR.symm (aL _)⟩
theorem Me : ∀ f : Nat, (CJ f).Ok prog := by
 have key : ∀ f : Nat, (∀ (s : ByteArray) (lv a c : Int), Ctr prog zY [.ptr 0 0, vI .i64 lv] [pOb s a c 0] (Hg s f lv a c)) -> (CJ f).Ok prog := by
  intro f hf al ol args obs out h
  unfold CJ at h
  simp only at h
  repeat' split at h
  all_goals first
   | (simp only [Option.some.injEq, Prod.mk.injEq] at h; obtain ⟨rfl, rfl, rfl⟩ := h; apply hf)
   | cases h
 intro f
 induction f with
 | zero => exact key 0 fun s lv a c => vU fun h => by obtain ⟨_, _, _, h⟩ := h; simp [iI] at h
 | succ f ih => exact key (f + 1) fun s lv a c => Df ih s lv a c
theorem WR (s : ByteArray) (f : Nat) (lv a c : Int) : Ctr prog zY [.ptr 0 0, vI .i64 lv] [pOb s a c 0] (Hg s f lv a c) := by
 cases f with
 | zero => exact vU fun h => by obtain ⟨_, _, _, h⟩ := h; simp [iI] at h
 | succ f => exact Df (Me f) s lv a c
end Rd
set_option linter.unusedSimpArgs false
set_option linter.unusedVariables false
open Rx Go
namespace Rd
structure RR where
 l : List Dm
 i : Int
 e : Int
instance : Inhabited RR := ⟨⟨[], 0, 0⟩⟩
def mR (s : ByteArray) : Nat -> Int -> Int -> List Dm -> Option RR
 | 0, _, _, _ => none
 | f + 1, a, c, acc =>
   if a < s.size then match iI s f 1 a c with
     | none => none
     | some r => if r.e ≠ 0 then some ⟨[], r.a, r.e⟩ else mR s f (blk s r.a) r.c (acc ++ [r.d])
   else some ⟨acc, 0, 0⟩
def vY (s : ByteArray) (f : Nat) (a c : Int) (acc : List Dm) : RR := (mR s f a c acc).getD default
def iJ (f : Nat) (s : ByteArray) : Option RR := mR s f (blk s 0) 0 []
def kX (f : Nat) (s : ByteArray) : RR := (iJ f s).getD default
def Va (f : Nat) (s : ByteArray) : T Out := .need (s.size <= 3000 /\ (iJ f s).isSome = true) (.ret (.tup [dmA (kX f s).l, vI .i64 (kX f s).i, vI .i64 (kX f s).e], []))
def Vb (f : Nat) : FC := ⟨Gy, false, false, fun al ol => match al, ol with
 | [x], [] => match rdS x with
   | some s => some ([vS s], [], Va f s)
   | none => none
 | _, _ => none⟩
def KW (s : ByteArray) : List SV := [vS s, .ptr 0 0, .nm 1]
def Pw (s : ByteArray) (x : LX) : List (Option Ob) := [some (pOb s x.a x.c 0), some (.row lI 4 x.acc.length (dmL x.acc))]
def U2 (s : ByteArray) (r : RR) : T OutC := .ite (r.e == 0) (.ret (.exit 0, [.nm 0], [some (.row lI 4 r.l.length (dmL r.l))])) (.ret (.ret, [.dt (.cell (.slice none 0 0)), vI .i64 r.i, vI .i64 r.e], []))
def PO (s : ByteArray) (g : Nat) (x : LX) : T OutC := .need (x.f <= g /\ okS s x.a /\ okC x.c /\ x.acc.length <= x.c /\ (mR s x.f x.a x.c x.acc).isSome = true) (U2 s (vY s x.f x.a x.c x.acc))
def JX (g : Nat) : LF := ⟨6, ⟨[0, 5, 6], [6], [2, 3, 4]⟩, fun svs obl => match svs, obl with
 | [_, .ptr 0 0, .nm 1], some (.cells _ [s, a, c, _]) :: _ => match rdS s, rdI a, rdI c with
   | some s, some a, some c => some (KW s, Pw s ⟨g, a, c, gK⟩, PO s g ⟨g, a, c, gK⟩)
   | _, _, _ => none
 | _, _ => none⟩
def TD (g : Nat) : List (Nat × Nat × FC) := [(4, 0, noF), (5, 1, bkF), (8, 1, CJ g), (7, 1, bkF), (12, 1, clF)]
noncomputable def Qj (g : Nat) : Env := fnE prog 46 0 (TD g) [JX g]
noncomputable def H8 : Code := (jr 6 (bO Ap)).getD .skip
def Nw (s : ByteArray) (g : Nat) (a c : Int) (acc : List Dm) (Rn : List SV -> List (Option Ob) -> Prop) (Re : Ex -> List SV -> List (Option Ob) -> Prop) : Prop :=
(((decide (a < (↑s.size : Int)) = true) ->
 ((Rx.leL ([SV.ptr 0 0, SV.dt (Dt.cell (.int .i64 (1 : Int)))]) ([SV.ptr 0 0, SV.dt (Dt.cell (.int .i64 (1 : Int)))])) /\
  ((Rx.bn ([Ob.cells 101 [SV.dt (Dt.cell (.string s)), SV.dt (Dt.cell (.int .i64 a)), SV.dt (Dt.cell (.int .i64 c)), SV.dt (Dt.cell (.int .i64 (0 : Int)))]]) ([Ob.cells 101 [SV.dt (Dt.cell (.string s)), SV.dt (Dt.cell (.int .i64 a)), SV.dt (Dt.cell (.int .i64 c)), SV.dt (Dt.cell (.int .i64 (0 : Int)))]])) /\
   (((Rd.okS s a) /\
     ((Rd.okC c) /\
      ((Rd.okL (1 : Int)) /\
       ((Rd.iI s g (1 : Int) a c).isSome = true)))) /\
    (((((Rd.aY s g (1 : Int) a c).e != (0 : Int)) = true) ->
      Re (Rx.Ex.ret) ([SV.dt (Dt.cell (.slice Option.none (0 : Nat) (0 : Nat))), SV.dt (Dt.cell (.int .i64 (Rd.aY s g (1 : Int) a c).a)), SV.dt (Dt.cell (.int .i64 (Rd.aY s g (1 : Int) a c).e))]) ([])) /\
     ((((Rd.aY s g (1 : Int) a c).e != (0 : Int)) = false) ->
      (((acc.length + (1 : Nat)) * (56 : Nat) <= (140737488355328 : Nat)) /\
       ((Rx.leL ([SV.ptr 0 0]) ([SV.ptr 0 0])) /\
        ((Rx.bn ([Ob.cells 101 [SV.dt (Dt.cell (.string s)), SV.dt (Dt.cell (.int .i64 (Rd.aY s g (1 : Int) a c).a)), SV.dt (Dt.cell (.int .i64 (Rd.aY s g (1 : Int) a c).c)), SV.dt (Dt.cell (.int .i64 (Rd.aY s g (1 : Int) a c).e))]]) ([Ob.cells 101 [SV.dt (Dt.cell (.string s)), SV.dt (Dt.cell (.int .i64 (Rd.aY s g (1 : Int) a c).a)), SV.dt (Dt.cell (.int .i64 (Rd.aY s g (1 : Int) a c).c)), SV.dt (Dt.cell (.int .i64 (Rd.aY s g (1 : Int) a c).e))]])) /\
         ((Rd.okS s (Rd.aY s g (1 : Int) a c).a) /\
          Rn ([SV.dt (Dt.cell (.string s)), SV.ptr 0 0, SV.nm 1]) ([some (Ob.cells 101 [SV.dt (Dt.cell (.string s)), SV.dt (Dt.cell (.int .i64 (Rd.blk s (Rd.aY s g (1 : Int) a c).a))), SV.dt (Dt.cell (.int .i64 (Rd.aY s g (1 : Int) a c).c)), SV.dt (Dt.cell (.int .i64 (Rd.aY s g (1 : Int) a c).e))]), some (Ob.row 47 4 (acc.length + (1 : Nat)) (Rx.fH acc.length (Rd.dmL acc) (Rx.mQ (4 : Nat) [Rx.Dt.cell (.int .i64 (Rd.aY s g (1 : Int) a c).d.k), Rx.Dt.cell (.int .i64 (Rd.aY s g (1 : Int) a c).d.n), Rx.Dt.cell (.string (Rd.aY s g (1 : Int) a c).d.s), Rx.Dt.arr (4 : Nat) (Rd.aY s g (1 : Int) a c).d.l.length (Rd.dmL (Rd.aY s g (1 : Int) a c).d.l)])))]))))))))))) /\
((decide (a < (↑s.size : Int)) = false) ->
 Re (Rx.Ex.exit (0 : Nat)) ([SV.nm 0]) ([some (Ob.row 47 4 (acc.length) (Rd.dmL acc))])))
def Vh (s : ByteArray) (g : Nat) (R : SV -> List (Option Ob) -> Prop) : Prop :=
(((decide ((↑s.size : Int) > (3000 : Int)) = true) ->
 (True /\
  R (SV.tup [SV.dt (Dt.cell (.slice Option.none (0 : Nat) (0 : Nat))), SV.dt (Dt.cell (.int .i64 (0 : Int))), SV.dt (Dt.cell (.int .i64 (1 : Int)))]) ([]))) /\
((decide ((↑s.size : Int) > (3000 : Int)) = false) ->
 ((Rx.leL ([SV.ptr 0 0]) ([SV.ptr 0 0])) /\
  ((Rx.bn ([Ob.cells 101 [SV.dt (Dt.cell (.string s)), SV.ki .i64 ((0 : Int)), SV.ki .i64 ((0 : Int)), SV.ki .i64 ((0 : Int))]]) ([Ob.cells 101 [SV.dt (Dt.cell (.string s)), SV.dt (Dt.cell (.int .i64 (0 : Int))), SV.dt (Dt.cell (.int .i64 (0 : Int))), SV.dt (Dt.cell (.int .i64 (0 : Int)))]])) /\
   ((Rd.okS s (0 : Int)) /\
    (((Rx.leS (SV.dt (Dt.cell (.string s))) (SV.dt (Dt.cell (.string s)))) /\
      ((Rx.leS (SV.ptr 0 0) (SV.ptr 0 0)) /\
       ((Rx.leS (SV.nm 1) (SV.nm 1)) /\
        True))) /\
     ((Rx.leOO ([some (Ob.cells 101 [SV.dt (Dt.cell (.string s)), SV.dt (Dt.cell (.int .i64 (Rd.blk s (0 : Int)))), SV.dt (Dt.cell (.int .i64 (0 : Int))), SV.dt (Dt.cell (.int .i64 (0 : Int)))]), some (Ob.row 47 4 ((0 : Nat)) (fun x x_1 => Rx.aW))]) ([some (Ob.cells 101 [SV.dt (Dt.cell (.string s)), SV.dt (Dt.cell (.int .i64 (Rd.blk s (0 : Int)))), SV.dt (Dt.cell (.int .i64 (0 : Int))), SV.dt (Dt.cell (.int .i64 (0 : Int)))]), some (Ob.row 47 4 (Rd.gK.length) (Rd.dmL Rd.gK))])) /\
      (((g <= g) /\
        ((Rd.okS s (Rd.blk s (0 : Int))) /\
         ((Rd.okC (0 : Int)) /\
          (((↑Rd.gK.length : Int) <= (0 : Int)) /\
           ((Rd.mR s g (Rd.blk s (0 : Int)) (0 : Int) Rd.gK).isSome = true))))) /\
       (((((Rd.vY s g (Rd.blk s (0 : Int)) (0 : Int) Rd.gK).e == (0 : Int)) = true) ->
         ((Rx.leL ([SV.dt (Dt.arr ((4 : Nat)) ((Rd.vY s g (Rd.blk s (0 : Int)) (0 : Int) Rd.gK).l.length) (Rd.dmL (Rd.vY s g (Rd.blk s (0 : Int)) (0 : Int) Rd.gK).l))]) ([SV.dt (Dt.arr ((4 : Nat)) ((Rd.vY s g (Rd.blk s (0 : Int)) (0 : Int) Rd.gK).l.length) (Rd.dmL (Rd.vY s g (Rd.blk s (0 : Int)) (0 : Int) Rd.gK).l))])) /\
          ((Rx.bn ([]) ([])) /\
           (True /\
            R (SV.tup [SV.dt (Dt.arr ((4 : Nat)) ((Rd.vY s g (Rd.blk s (0 : Int)) (0 : Int) Rd.gK).l.length) (Rd.dmL (Rd.vY s g (Rd.blk s (0 : Int)) (0 : Int) Rd.gK).l)), SV.dt (Dt.cell (.int .i64 (0 : Int))), SV.dt (Dt.cell (.int .i64 (0 : Int)))]) ([]))))) /\
        ((((Rd.vY s g (Rd.blk s (0 : Int)) (0 : Int) Rd.gK).e == (0 : Int)) = false) ->
         (True /\
          R (SV.tup [SV.dt (Dt.cell (.slice Option.none (0 : Nat) (0 : Nat))), SV.dt (Dt.cell (.int .i64 (Rd.vY s g (Rd.blk s (0 : Int)) (0 : Int) Rd.gK).i)), SV.dt (Dt.cell (.int .i64 (Rd.vY s g (Rd.blk s (0 : Int)) (0 : Int) Rd.gK).e))]) ([]))))))))))))
theorem Cx (s : ByteArray) : ∀ (f : Nat) (a c : Int) (acc : List Dm) (r : RR), mR s f a c acc = some r -> (r.e = 0 -> r.i = 0) /\ (r.e ≠ 0 -> r.l = [])
 | 0, _, _, _, _, h => by simp [mR] at h
 | f + 1, a, c, acc, r, h => by
   rw [mR] at h
   split at h
   · split at h
     · cases h
     · rename_i q _
       split at h
       · rename_i g; injection h with h; subst h; exact ⟨fun h => absurd h g, fun _ => rfl⟩
       · exact Cx s f _ _ _ _ h
   · injection h with h; subst h; exact ⟨fun _ => rfl, fun h => absurd rfl h⟩
theorem G7 {s : ByteArray} {f : Nat} {a c : Int} {acc : List Dm} {r : RR} (hr : mR s f a c acc = some r) : vY s f a c acc = r := by
 unfold vY
 rw [hr]; rfl
theorem Sj {f : Nat} {s : ByteArray} {r : RR} (hr : iJ f s = some r) : kX f s = r := by
 unfold kX
 rw [hr]; rfl
theorem MW (g : Nat) : ∀ x ∈ TD g, x.2.2.Ok prog := all_cons Q6 (all_cons FD (all_cons (Me g) (all_cons FD (all_cons Wv all_nil))))
theorem F4 {g : Nat} (s : ByteArray) (x : LX) : Sound (Qj g) (.loop H8) (jW ((JX g).live.h.zip (KW s)) (Pw s x)) ((PO s g x).map (OutC.st (JX g).live)) := by
 refine sS mixed (ks := TD g) (ls := [JX g]) (c := H8) (nb := 0) (N := 46) (MW g) (gD (by kernel_rfl)) (JX g).live (fun _ : LX => KW s) (fun x => Pw s x) (fun x => PO s g x) (fun x => x.f)
  (Q := fun x => Nw s g x.a x.c x.acc) (fun x post hp => ?_) (fun a Rn Re => by kernel_rfl) x
 obtain ⟨f, a, c, acc⟩ := x
 obtain ⟨⟨hf, hs, hc, ha, hsome⟩, hp0⟩ := hp
 obtain ⟨R, hR⟩ := Option.isSome_iff_exists.1 hsome
 have hp : (U2 s (vY s f a c acc)).holds post := hp0
 clear hp0
 rw [G7 hR] at hp
 simp only at hf hs hc ha hR
 have hcl := hc.1
 have hcu := hc.2
 cases f with
 | zero => simp [mR] at hR
 | succ f =>
 rw [mR] at hR
 unfold Nw
 refine ⟨fun hlt => ?_, fun hlt => ?_⟩
 · rw [if_pos (of_decide_eq_true hlt)] at hR
   split at hR
   · cases hR
   · rename_i r hr
     have er := zF (g := g) (by omega : f <= g) hr
     obtain ⟨k1, k2, k3, k4⟩ := (zW s f).1 _ _ _ _ hr hs hc
     refine ⟨aG _, aT _, ⟨hs, hc, ⟨by omega, by omega⟩, by rw [kL (by omega : f <= g) hr]; rfl⟩, fun he => ?_, fun he => ⟨by show (acc.length + 1) * 56 <= 140737488355328; omega, aG _, aT _, by rw [er]; exact k1, ?_⟩⟩
     · rw [er] at he ⊢
       have he : r.e ≠ 0 := by simpa using he
       rw [if_pos he] at hR
       injection hR with hR
       rw [← hR] at hp
       exact nI.mk (hp.2 (by simpa using he)) (aG _) (aN _)
     · rw [er] at he ⊢
       have he : r.e = 0 := by simpa using he
       rw [if_neg (by simpa using he)] at hR
       have c1 := xR s r.a
       have c2 := wZ s r.a k1.2.2
       refine ⟨⟨f, blk s r.a, r.c, acc ++ [r.d]⟩, Nat.lt_succ_self f, aG _, ?_, ⟨by simp only; omega, ⟨k1.1, by have := k1.2.1; simp only; omega, c2⟩, ⟨Int.le_trans hcl k3, k2 he⟩, by have := k4 he; simp; omega, by simp only; rw [hR]; rfl⟩, ?_⟩
       · rw [he]
         exact ⟨dO _, ⟨rfl, rfl, by simp, fun k hk j hj => JN acc r.d k j hk hj⟩, trivial⟩
       · simp only
         rw [G7 hR]; exact hp
 · rw [if_neg (of_decide_eq_false hlt)] at hR
   injection hR with hR
   rw [← hR] at hp
   exact nI.mk (hp.1 rfl) (aG _) (aN _)
theorem Te {g : Nat} : KF (Qj g) (JX g) H8 := by
 intro svs obl args obs out h
 unfold JX at h
 simp only at h
 repeat' split at h
 all_goals first
  | (simp only [Option.some.injEq, Prod.mk.injEq] at h; obtain ⟨rfl, rfl, rfl⟩ := h; apply F4)
  | cases h
theorem NS {g : Nat} : (Qj g).Lok (bM (bO Ap)) := by
 have hl : bM (bO Ap) = [H8] := by kernel_rfl
 rw [hl]
 refine l8 fun f h c hc hr => ?_
 rw [List.mem_singleton] at hc h
 subst hc; subst h
 exact Te
theorem IB (g : Nat) (s : ByteArray) : Ctr prog Gy [vS s] [] (Va g s) := by
 refine jS mixed (N := 46) (fn := Ap) (c := bO Ap) (ks := TD g) (ls := [JX g]) (by kernel_rfl) (by kernel_rfl) (by kernel_rfl) (MW g) AX NS (by kernel_rfl) (Q := Vh s g) (fun post hp => ?_) (fun R => by kernel_rfl)
 obtain ⟨⟨hs, hsome⟩, hp⟩ := hp
 have hp : post (.tup [dmA (kX g s).l, vI .i64 (kX g s).i, vI .i64 (kX g s).e], []) := hp
 obtain ⟨R, hR⟩ := Option.isSome_iff_exists.1 hsome
 rw [Sj hR] at hp
 have hR' : mR s g (blk s 0) 0 gK = some R := hR
 have eR := G7 hR'
 have b1 := xR s 0
 have b2 := wZ s 0 (by omega)
 obtain ⟨k1, k2⟩ := Cx _ _ _ _ _ _ hR
 unfold Vh
 refine ⟨fun h => absurd (of_decide_eq_true h) (by omega), fun _ => ⟨aG _, ⟨⟨rfl, aL _, (oz _ _ _).2 rfl, (oz _ _ _).2 rfl, (oz _ _ _).2 rfl, trivial⟩, trivial⟩, ⟨hs, by omega, by omega⟩, ⟨aL _, aL _, aL _, trivial⟩,
  ⟨dO _, ⟨rfl, rfl, rfl, fun k hk => absurd hk (by simp)⟩, trivial⟩, ⟨Nat.le_refl _, ⟨hs, by omega, b2⟩, ⟨by omega, by omega⟩, by simp [gK], by rw [hR']; rfl⟩, fun he => ⟨aG _, trivial, trivial, ?_⟩, fun he => ⟨trivial, ?_⟩⟩⟩
 · rw [eR] at he ⊢
   have he : R.e = 0 := by simpa using he
   refine xZ hp ?_
   rw [he, k1 he]
   exact aL _
 · rw [eR] at he ⊢
   have he : R.e ≠ 0 := by simpa using he
   refine xZ hp ?_
   rw [k2 he]
   simp only [Ta, wS, zJ, and_true]
   refine ⟨?_, aL _, aL _⟩
   unfold dmA
   rw [G6]
   simp only [bY]
   exact ⟨rfl, rfl⟩
theorem Ye (g : Nat) : (Vb g).Ok prog := by
 intro al ol args obs out h
 unfold Vb at h
 simp only at h
 repeat' split at h
 all_goals first
  | (simp only [Option.some.injEq, Prod.mk.injEq] at h; obtain ⟨rfl, rfl, rfl⟩ := h; apply IB)
  | cases h
end Rd
