/- The reader's recursion. -/
import Derived.Test.YtkbdcpkbmfegdaaGreatDoorSRdB
set_option linter.unusedSimpArgs false
set_option linter.unusedVariables false
open Rx Go
namespace Rd
theorem SC : noF.Ok prog := by
 intro al ol args obs out h
 cases h
theorem NW {g : Nat} (hD : (yM g).Ok prog) : ∀ x ∈ VP g, x.2.2.Ok prog :=
 all_cons E9 (all_cons vM (all_cons vM (all_cons vM (all_cons vM (all_cons hD (all_cons SC (all_cons E9 (all_cons hD (all_cons Yg all_nil)))))))))
theorem xD {s : ByteArray} {f g : Nat} {lv a c : Int} {r : PR} (h : f <= g) (hr : jW s f lv a c = some r) : aU s g lv a c = r := by
 unfold aU
 rw [uO h hr]; rfl
theorem Gb {s : ByteArray} {f : Nat} {lv a c : Int} {acc : List Dm} {r : PR} (hr : nR s f lv a c acc = some r) : ku s f lv a c acc = r := by
 unfold ku
 rw [hr]; rfl
theorem F9 {g : Nat} (hD : (yM g).Ok prog) (s : ByteArray) (lv : Int) (x : LX) : Sound (Rb g) (.loop F8) (jH ((IZ g).live.h.zip (KU lv)) (Sd s x)) ((Sg s g lv x).map (OutC.st (IZ g).live)) := by
 refine qA mixed (ks := VP g) (ls := [IZ g]) (c := F8) (nb := 1) (N := 153) (NW hD) (gD (by kernel_rfl)) (IZ g).live (fun _ : LX => KU lv) (fun x => Sd s x) (fun x => Sg s g lv x) (fun x => x.f)
  (Q := fun x => Oq s g lv x.a x.c x.acc) (fun x post hp => ?_) (fun a Rn Re => by kernel_rfl) x
 obtain ⟨f, a, c, acc⟩ := x
 obtain ⟨⟨hf, hs, hc, ⟨hl1, hl2⟩, ha, hsome⟩, hp⟩ := hp
 have hp : post (.ret, [.ptr 1 0], [some (pOb s (ku s f lv a c acc).a (ku s f lv a c acc).c (ku s f lv a c acc).e),
  some (.cells kJ [vI .i64 4, vI .i64 0, vS noS, .nm 2]), some (.row kJ 4 (ku s f lv a c acc).d.l.length (dmL (ku s f lv a c acc).d.l))]) := hp
 obtain ⟨R, hR⟩ := Option.isSome_iff_exists.1 hsome
 have eR := Gb hR
 simp only at hf hs hc ha hR
 have b1 := uL s a
 have b2 := uM s a hs.2.2
 have hb : okS s (blk s a) := ⟨hs.1, by have := hs.2.1; omega, b2⟩
 cases f with
 | zero => simp [nR] at hR
 | succ f =>
 have call : ¬ (blk s a < s.size /\ au s (blk s a) = 41) -> ∃ r, jW s f (lv + 1) (blk s a) c = some r /\ (if r.e ≠ 0 then R = ⟨.mk 4 0 noS acc, r.a, r.c, r.e⟩ else nR s f lv r.a r.c (acc ++ [r.d]) = some R) := fun h => by
  rw [nR, if_neg h] at hR
  split at hR
  · cases hR
  · rename_i r hr
    refine ⟨r, hr, ?_⟩
    split at hR
    · rename_i g; rw [if_pos g]; injection hR with hR; exact hR.symm
    · rename_i g; rw [if_neg g]; exact hR
 unfold Oq
 simp only [lo, hi]
 have part : ¬ (blk s a < s.size /\ au s (blk s a) = 41) -> _ := fun h => call h
 refine ⟨aF _, aP _, hs, fun _ => ⟨fun hlt => ⟨⟨hb.2.1, of_decide_eq_true hlt⟩, fun h41 => ⟨⟨by have := hb.2.1; omega, by have := hs.1; omega⟩, ?_⟩, fun h41 => ?_⟩, fun hlt => ?_⟩, fun h => (by cases h)⟩
 · have hlt := of_decide_eq_true hlt
   have h41 : au s (blk s a) = 41 := by simpa using h41
   rw [nR, if_pos ⟨hlt, h41⟩] at hR
   injection hR with hR
   rw [eR, ← hR] at hp
   exact l5.mk hp (aF _) (aJ _)
 all_goals
  obtain ⟨r, hr, hRr⟩ := call (by first | (rintro ⟨_, h⟩; simp [h] at h41; done) | (rintro ⟨h, _⟩; simp [h] at hlt; done))
  have er := xD (g := g) (by omega : f <= g) hr
  obtain ⟨k1, k2, k3, k4⟩ := (xE s f).1 _ _ _ _ hr hb hc
  refine ⟨⟨by omega, by omega⟩, aF _, aP _, ⟨hb, hc, ⟨by omega, by omega⟩, by rw [uO (by omega : f <= g) hr]; rfl⟩, fun he => ?_, fun he => ⟨by have := hc.2; omega, ?_⟩⟩
  · rw [er] at he ⊢
    have he : r.e ≠ 0 := by simpa using he
    rw [if_pos he] at hRr
    rw [eR, hRr] at hp
    exact l5.mk hp (aF _) (aJ _)
  · rw [er] at he ⊢
    have he : r.e = 0 := by simpa using he
    rw [if_neg (by simpa using he)] at hRr
    rw [eR] at hp
    refine ⟨⟨f, r.a, r.c, acc ++ [r.d]⟩, Nat.lt_succ_self f, aF _, ?_, ⟨by simp only; omega, k1, ⟨Int.le_trans hc.1 k3, k2 he⟩, ⟨hl1, hl2⟩, by have := k4 he; simp; omega, by simp only; rw [hRr]; rfl⟩, ?_⟩
    · rw [he]
      refine ⟨fO _, fO _, fO _, ⟨rfl, rfl, by simp, fun k hk j hj => Ij acc r.d k j hk hj⟩, trivial⟩
    · simp only
      have : post (.ret, [.ptr 1 0], [some (pOb s (ku s f lv r.a r.c (acc ++ [r.d])).a (ku s f lv r.a r.c (acc ++ [r.d])).c (ku s f lv r.a r.c (acc ++ [r.d])).e),
        some (.cells kJ [vI .i64 4, vI .i64 0, vS noS, .nm 2]), some (.row kJ 4 (ku s f lv r.a r.c (acc ++ [r.d])).d.l.length (dmL (ku s f lv r.a r.c (acc ++ [r.d])).d.l))]) := by
        rw [Gb hRr]; exact hp
      exact this
end Rd
set_option linter.unusedSimpArgs false
set_option linter.unusedVariables false
open Rx Go
namespace Rd
theorem Wx {g : Nat} (hD : (yM g).Ok prog) : JY (Rb g) (IZ g) F8 := by
 intro svs obl args obs out h
 unfold IZ at h
 simp only at h
 repeat' split at h
 all_goals first
  | (simp only [Option.some.injEq, Prod.mk.injEq] at h; obtain ⟨rfl, rfl, rfl⟩ := h; apply F9 hD)
  | cases h
theorem Px {g : Nat} (hD : (yM g).Ok prog) : (Rb g).Lok (bH (bI sw)) := by
 have hl : bH (bI sw) = [F8] := by kernel_rfl
 rw [hl]
 refine kX fun f h c hc hr => ?_
 rw [List.mem_singleton] at hc h
 subst hc; subst h
 exact Wx hD
theorem Td (d : Dm) : leS (.agg [vI .i64 4, .ki .i64 0, vS ⟨#[]⟩, .dt (.arr 4 2 (lV 4 [Dt.cell (.int .i64 3), .cell (.int .i64 0), .cell (.string Gq), .cell (.slice none 0 0), .cell (.int .i64 d.k), .cell (.int .i64 d.n), .cell (.string d.s), .arr 4 d.l.length (dmL d.l)]))]) (dmS (.mk 4 0 noS [.mk 3 0 Gq [], d])) := by
 simp only [dmS, dmA, Dm.k, Dm.n, Dm.s, Dm.l, F5, tN, xO, and_true]
 refine ⟨aI _, (mW _ _ _).2 rfl, aI _, ?_⟩
 rw [F6, R9]
 refine ⟨rfl, .inr ⟨rfl, fun k hk j hj => ?_⟩⟩
 rw [xP hj (by simp; omega)]
 match k, hk with
 | 0, _ =>
   match j, hj with
   | 0, _ => simp [dmL, dmT, bY]
   | 1, _ => simp [dmL, dmT, bY]
   | 2, _ => simp [dmL, dmT, bY]
   | 3, _ => simp [dmL, dmT, bY, isNil]
 | 1, _ =>
   have e : dmL [.mk 3 0 Gq [], d] 1 j = dmT d j := by simp [dmL]
   rw [e, Rj d j hj]
   match j, hj with
   | 0, _ => exact dN _
   | 1, _ => exact dN _
   | 2, _ => exact dN _
   | 3, _ => exact dN _
theorem Kj {g : Nat} (hD : (yM g).Ok prog) (s : ByteArray) (lv a c : Int) : Ctr prog FB [.ptr 0 0, vI .i64 lv] [pOb s a c 0] (Ki s (g + 1) lv a c) := by
 refine jo mixed (N := 153) (fn := sw) (c := bI sw) (ks := VP g) (ls := [IZ g]) (by kernel_rfl) (by kernel_rfl) (by kernel_rfl) (NW hD) ⟨true, none⟩ (Px hD) (by kernel_rfl) (Q := Rc s g lv a c) (fun post hp => ?_) (fun R => by kernel_rfl)
 obtain ⟨⟨hs, hc, hl, hsome⟩, hp⟩ := hp
 have hp : post (dmS (aU s (g + 1) lv a c).d, [some (pOb s (aU s (g + 1) lv a c).a (aU s (g + 1) lv a c).c (aU s (g + 1) lv a c).e)]) := hp
 obtain ⟨R, hR⟩ := Option.isSome_iff_exists.1 hsome
 rw [xD (Nat.le_refl _) hR] at hp
 have b1 := uL s a
 have b2 := uM s a hs.2.2
 have hb : okS s (blk s a) := ⟨hs.1, by have := hs.2.1; omega, b2⟩
 have hcl := hc.1
 have hcu := hc.2
 have hl1 := hl.1
 have hl2 := hl.2
 have hs1 := hs.1
 have hb0 := hb.2.1
 have leaf : ∀ {v : SV} {d : Dm} {a c e : Int}, R = ⟨d, a, c, e⟩ -> leS v (dmS d) -> Gives post v [some (pOb s a c e)] := fun h hv => by
  rw [h] at hp; exact lT hp hv (aJ _)
 rw [jW] at hR
 unfold Rc
 simp only [lo, hi]
 refine ⟨aF _, aP _, hs, fun h => (by cases h), fun _ => ⟨fun h => ⟨aF _, aP _, trivial, ?_⟩, fun h1 => ⟨⟨by omega, by omega⟩, fun h => ⟨aF _, aP _, trivial, ?_⟩, fun h2 =>
  ⟨fun h => ⟨aF _, aP _, trivial, ?_⟩, fun h3 => ?_⟩⟩⟩⟩
 · have h : blk s a = s.size := by simpa using h
   rw [if_pos h] at hR
   injection hR with hR
   exact leaf hR.symm (aI _)
 · have h1 : ¬ blk s a = s.size := by simpa using h1
   rw [if_neg h1, if_pos (of_decide_eq_true h)] at hR
   injection hR with hR
   exact leaf hR.symm (aI _)
 · have h1 : ¬ blk s a = s.size := by simpa using h1
   rw [if_neg h1, if_neg (of_decide_eq_false h2), if_pos (of_decide_eq_true h)] at hR
   injection hR with hR
   exact leaf hR.symm (aI _)
 have h1 : ¬ blk s a = s.size := by simpa using h1
 have h2 := of_decide_eq_false h2
 have h3 := of_decide_eq_false h3
 rw [if_neg h1, if_neg h2, if_neg h3] at hR
 have hb1 : okS s (blk s a + 1) := ⟨hs1, by omega, by omega⟩
 have hc1 : okC (c + 1) := ⟨by omega, by omega⟩
 refine ⟨⟨hb0, by omega⟩, fun h => ⟨aF _, aP _, trivial, ?_⟩, fun h41 => ?_⟩
 · have h : au s (blk s a) = 41 := by simpa using h
   rw [if_pos h] at hR
   injection hR with hR
   exact leaf hR.symm (aI _)
 have h41 : ¬ au s (blk s a) = 41 := by simpa using h41
 rw [if_neg h41] at hR
 refine ⟨fun h => ?_, fun h39 => ?_⟩
 · have h : au s (blk s a) = 39 := by simpa using h
   rw [if_pos h] at hR
   obtain ⟨r, hr, hRr⟩ := Option.map_eq_some_iff.1 hR
   refine ⟨⟨by omega, by omega⟩, ⟨by omega, by omega⟩, aF _, aP _, ⟨hb1, hc1, ⟨by omega, by omega⟩, by rw [hr]; rfl⟩, trivial, ?_⟩
   rw [xD (Nat.le_refl _) hr]
   exact leaf hRr.symm (Td r.d)
 have h39 : ¬ au s (blk s a) = 39 := by simpa using h39
 rw [if_neg h39] at hR
 refine ⟨fun h => ?_, fun h40 => ?_⟩
 · have h : au s (blk s a) = 40 := by simpa using h
   rw [if_pos h] at hR
   obtain ⟨k1, k2, k3, k4⟩ := (xE s g).2 _ _ _ _ _ hR hb1 hc1
   refine ⟨⟨by omega, by omega⟩, ⟨aI _, aI _, aI _, aI _, trivial⟩, ?_, ⟨Nat.le_refl _, hb1, hc1, ⟨by omega, by omega⟩, by simp [gT]; omega, by
    show (nR s g lv (blk s a + 1) (c + 1) []).isSome = true
    rw [hR]; rfl⟩, trivial, ?_⟩
   · exact ⟨fO _, fO _, ⟨rfl, aI _, (mW _ _ _).2 rfl, aI _, aI _, trivial⟩, ⟨rfl, rfl, rfl, fun k hk => absurd hk (by simp)⟩, trivial⟩
   · have e : ku s g lv (blk s a + 1) (c + 1) gT = R := Gb hR
     rw [e]
     refine leaf (d := .mk 4 0 noS R.d.l) (a := R.a) (c := R.c) (e := R.e) (by rw [← k4]) (aI _)
 · have h40 : ¬ au s (blk s a) = 40 := by simpa using h40
   rw [if_neg h40] at hR
   injection hR with hR
   exact ⟨aF _, aP _, ⟨hb, hb0, Int.le_refl _⟩, trivial, leaf hR.symm (aI _)⟩
theorem VQ : ∀ f : Nat, (yM f).Ok prog := by
 have key : ∀ f : Nat, (∀ (s : ByteArray) (lv a c : Int), Ctr prog FB [.ptr 0 0, vI .i64 lv] [pOb s a c 0] (Ki s f lv a c)) -> (yM f).Ok prog := by
  intro f hf al ol args obs out h
  unfold yM at h
  simp only at h
  repeat' split at h
  all_goals first
   | (simp only [Option.some.injEq, Prod.mk.injEq] at h; obtain ⟨rfl, rfl, rfl⟩ := h; apply hf)
   | cases h
 intro f
 induction f with
 | zero => exact key 0 fun s lv a c => yI fun h => by obtain ⟨_, _, _, h⟩ := h; simp [jW] at h
 | succ f ih => exact key (f + 1) fun s lv a c => Kj ih s lv a c
end Rd
set_option linter.unusedSimpArgs false
set_option linter.unusedVariables false
open Rx Go
namespace Rd
structure RR where
 l : List Dm
 i : Int
 e : Int
instance : Inhabited RR := ⟨⟨[], 0, 0⟩⟩
def xq (s : ByteArray) : Nat -> Int -> Int -> List Dm -> Option RR
 | 0, _, _, _ => none
 | f + 1, a, c, acc =>
   if a < s.size then match jW s f 1 a c with
     | none => none
     | some r => if r.e ≠ 0 then some ⟨[], r.a, r.e⟩ else xq s f (blk s r.a) r.c (acc ++ [r.d])
   else some ⟨acc, 0, 0⟩
def uj (s : ByteArray) (f : Nat) (a c : Int) (acc : List Dm) : RR := (xq s f a c acc).getD default
def Jq (f : Nat) (s : ByteArray) : Option RR := xq s f (blk s 0) 0 []
def kE (f : Nat) (s : ByteArray) : RR := (Jq f s).getD default
def afl (f : Nat) (s : ByteArray) : T Out := .need (s.size <= 3000 /\ (Jq f s).isSome = true) (.ret (.tup [dmA (kE f s).l, vI .i64 (kE f s).i, vI .i64 (kE f s).e], []))
def Lm (s : ByteArray) : List SV := [vS s, .ptr 0 0, .nm 1]
def Tk (s : ByteArray) (x : LX) : List (Option Ob) := [some (pOb s x.a x.c 0), some (.row kJ 4 x.acc.length (dmL x.acc))]
def XO (s : ByteArray) (r : RR) : T OutC := .ite (r.e == 0) (.ret (.exit 0, [.nm 0], [some (.row kJ 4 r.l.length (dmL r.l))])) (.ret (.ret, [.dt (.cell (.slice none 0 0)), vI .i64 r.i, vI .i64 r.e], []))
def Tm (s : ByteArray) (g : Nat) (x : LX) : T OutC := .need (x.f <= g /\ okS s x.a /\ okC x.c /\ x.acc.length <= x.c /\ (xq s x.f x.a x.c x.acc).isSome = true) (XO s (uj s x.f x.a x.c x.acc))
def Ju (g : Nat) : LF := ⟨6, ⟨[0, 5, 6], [6], [2, 3, 4]⟩, fun svs obl => match svs, obl with
 | [_, .ptr 0 0, .nm 1], some (.cells _ [s, a, c, _]) :: _ => match rdS s, rdI a, rdI c with
   | some s, some a, some c => some (Lm s, Tk s ⟨g, a, c, gT⟩, Tm s g ⟨g, a, c, gT⟩)
   | _, _, _ => none
 | _, _ => none⟩
def WM (g : Nat) : List (Nat × Nat × FC) := [(4, 0, noF), (5, 1, bkF), (8, 1, yM g), (7, 1, bkF), (12, 1, clF)]
noncomputable def Te (g : Nat) : Env := fnE prog 46 0 (WM g) [Ju g]
noncomputable def Gu : Code := (jv 6 (bI yC)).getD .skip
def OT (s : ByteArray) (g : Nat) (a c : Int) (acc : List Dm) (Rn : List SV -> List (Option Ob) -> Prop) (Re : Ex -> List SV -> List (Option Ob) -> Prop) : Prop :=
(((decide (a < (↑s.size : Int)) = true) ->
 ((Rx.leL ([SV.ptr 0 0, SV.dt (Dt.cell (.int .i64 (1 : Int)))]) ([SV.ptr 0 0, SV.dt (Dt.cell (.int .i64 (1 : Int)))])) /\
  ((Rx.bD ([Ob.cells 133 [SV.dt (Dt.cell (.string s)), SV.dt (Dt.cell (.int .i64 a)), SV.dt (Dt.cell (.int .i64 c)), SV.dt (Dt.cell (.int .i64 (0 : Int)))]]) ([Ob.cells 133 [SV.dt (Dt.cell (.string s)), SV.dt (Dt.cell (.int .i64 a)), SV.dt (Dt.cell (.int .i64 c)), SV.dt (Dt.cell (.int .i64 (0 : Int)))]])) /\
   (((Rd.okS s a) /\
     ((Rd.okC c) /\
      ((Rd.okL (1 : Int)) /\
       ((Rd.jW s g (1 : Int) a c).isSome = true)))) /\
    (((((Rd.aU s g (1 : Int) a c).e != (0 : Int)) = true) ->
      Re (Rx.Ex.ret) ([SV.dt (Dt.cell (.slice Option.none (0 : Nat) (0 : Nat))), SV.dt (Dt.cell (.int .i64 (Rd.aU s g (1 : Int) a c).a)), SV.dt (Dt.cell (.int .i64 (Rd.aU s g (1 : Int) a c).e))]) ([])) /\
     ((((Rd.aU s g (1 : Int) a c).e != (0 : Int)) = false) ->
      (((acc.length + (1 : Nat)) * (56 : Nat) <= (140737488355328 : Nat)) /\
       ((Rx.leL ([SV.ptr 0 0]) ([SV.ptr 0 0])) /\
        ((Rx.bD ([Ob.cells 133 [SV.dt (Dt.cell (.string s)), SV.dt (Dt.cell (.int .i64 (Rd.aU s g (1 : Int) a c).a)), SV.dt (Dt.cell (.int .i64 (Rd.aU s g (1 : Int) a c).c)), SV.dt (Dt.cell (.int .i64 (Rd.aU s g (1 : Int) a c).e))]]) ([Ob.cells 133 [SV.dt (Dt.cell (.string s)), SV.dt (Dt.cell (.int .i64 (Rd.aU s g (1 : Int) a c).a)), SV.dt (Dt.cell (.int .i64 (Rd.aU s g (1 : Int) a c).c)), SV.dt (Dt.cell (.int .i64 (Rd.aU s g (1 : Int) a c).e))]])) /\
         ((Rd.okS s (Rd.aU s g (1 : Int) a c).a) /\
          Rn ([SV.dt (Dt.cell (.string s)), SV.ptr 0 0, SV.nm 1]) ([some (Ob.cells 133 [SV.dt (Dt.cell (.string s)), SV.dt (Dt.cell (.int .i64 (Rd.blk s (Rd.aU s g (1 : Int) a c).a))), SV.dt (Dt.cell (.int .i64 (Rd.aU s g (1 : Int) a c).c)), SV.dt (Dt.cell (.int .i64 (Rd.aU s g (1 : Int) a c).e))]), some (Ob.row 25 4 (acc.length + (1 : Nat)) (Rx.gP acc.length (Rd.dmL acc) (Rx.lV (4 : Nat) [Rx.Dt.cell (.int .i64 (Rd.aU s g (1 : Int) a c).d.k), Rx.Dt.cell (.int .i64 (Rd.aU s g (1 : Int) a c).d.n), Rx.Dt.cell (.string (Rd.aU s g (1 : Int) a c).d.s), Rx.Dt.arr (4 : Nat) (Rd.aU s g (1 : Int) a c).d.l.length (Rd.dmL (Rd.aU s g (1 : Int) a c).d.l)])))]))))))))))) /\
((decide (a < (↑s.size : Int)) = false) ->
 Re (Rx.Ex.exit (0 : Nat)) ([SV.nm 0]) ([some (Ob.row 25 4 (acc.length) (Rd.dmL acc))])))
def XM (s : ByteArray) (g : Nat) (R : SV -> List (Option Ob) -> Prop) : Prop :=
(((decide ((↑s.size : Int) > (3000 : Int)) = true) ->
 (True /\
  R (SV.tup [SV.dt (Dt.cell (.slice Option.none (0 : Nat) (0 : Nat))), SV.dt (Dt.cell (.int .i64 (0 : Int))), SV.dt (Dt.cell (.int .i64 (1 : Int)))]) ([]))) /\
((decide ((↑s.size : Int) > (3000 : Int)) = false) ->
 ((Rx.leL ([SV.ptr 0 0]) ([SV.ptr 0 0])) /\
  ((Rx.bD ([Ob.cells 133 [SV.dt (Dt.cell (.string s)), SV.ki .i64 ((0 : Int)), SV.ki .i64 ((0 : Int)), SV.ki .i64 ((0 : Int))]]) ([Ob.cells 133 [SV.dt (Dt.cell (.string s)), SV.dt (Dt.cell (.int .i64 (0 : Int))), SV.dt (Dt.cell (.int .i64 (0 : Int))), SV.dt (Dt.cell (.int .i64 (0 : Int)))]])) /\
   ((Rd.okS s (0 : Int)) /\
    (((Rx.leS (SV.dt (Dt.cell (.string s))) (SV.dt (Dt.cell (.string s)))) /\
      ((Rx.leS (SV.ptr 0 0) (SV.ptr 0 0)) /\
       ((Rx.leS (SV.nm 1) (SV.nm 1)) /\
        True))) /\
     ((Rx.leOO ([some (Ob.cells 133 [SV.dt (Dt.cell (.string s)), SV.dt (Dt.cell (.int .i64 (Rd.blk s (0 : Int)))), SV.dt (Dt.cell (.int .i64 (0 : Int))), SV.dt (Dt.cell (.int .i64 (0 : Int)))]), some (Ob.row 25 4 ((0 : Nat)) (fun x x_1 => Rx.aR))]) ([some (Ob.cells 133 [SV.dt (Dt.cell (.string s)), SV.dt (Dt.cell (.int .i64 (Rd.blk s (0 : Int)))), SV.dt (Dt.cell (.int .i64 (0 : Int))), SV.dt (Dt.cell (.int .i64 (0 : Int)))]), some (Ob.row 25 4 (Rd.gT.length) (Rd.dmL Rd.gT))])) /\
      (((g <= g) /\
        ((Rd.okS s (Rd.blk s (0 : Int))) /\
         ((Rd.okC (0 : Int)) /\
          (((↑Rd.gT.length : Int) <= (0 : Int)) /\
           ((Rd.xq s g (Rd.blk s (0 : Int)) (0 : Int) Rd.gT).isSome = true))))) /\
       (((((Rd.uj s g (Rd.blk s (0 : Int)) (0 : Int) Rd.gT).e == (0 : Int)) = true) ->
         ((Rx.leL ([SV.dt (Dt.arr ((4 : Nat)) ((Rd.uj s g (Rd.blk s (0 : Int)) (0 : Int) Rd.gT).l.length) (Rd.dmL (Rd.uj s g (Rd.blk s (0 : Int)) (0 : Int) Rd.gT).l))]) ([SV.dt (Dt.arr ((4 : Nat)) ((Rd.uj s g (Rd.blk s (0 : Int)) (0 : Int) Rd.gT).l.length) (Rd.dmL (Rd.uj s g (Rd.blk s (0 : Int)) (0 : Int) Rd.gT).l))])) /\
          ((Rx.bD ([]) ([])) /\
           (True /\
            R (SV.tup [SV.dt (Dt.arr ((4 : Nat)) ((Rd.uj s g (Rd.blk s (0 : Int)) (0 : Int) Rd.gT).l.length) (Rd.dmL (Rd.uj s g (Rd.blk s (0 : Int)) (0 : Int) Rd.gT).l)), SV.dt (Dt.cell (.int .i64 (0 : Int))), SV.dt (Dt.cell (.int .i64 (0 : Int)))]) ([]))))) /\
        ((((Rd.uj s g (Rd.blk s (0 : Int)) (0 : Int) Rd.gT).e == (0 : Int)) = false) ->
         (True /\
          R (SV.tup [SV.dt (Dt.cell (.slice Option.none (0 : Nat) (0 : Nat))), SV.dt (Dt.cell (.int .i64 (Rd.uj s g (Rd.blk s (0 : Int)) (0 : Int) Rd.gT).i)), SV.dt (Dt.cell (.int .i64 (Rd.uj s g (Rd.blk s (0 : Int)) (0 : Int) Rd.gT).e))]) ([]))))))))))))
theorem Bh (s : ByteArray) : ∀ (f : Nat) (a c : Int) (acc : List Dm) (r : RR), xq s f a c acc = some r -> (r.e = 0 -> r.i = 0) /\ (r.e ≠ 0 -> r.l = [])
 | 0, _, _, _, _, h => by simp [xq] at h
 | f + 1, a, c, acc, r, h => by
   rw [xq] at h
   split at h
   · split at h
     · cases h
     · rename_i q _
       split at h
       · rename_i g; injection h with h; subst h; exact ⟨fun h => absurd h g, fun _ => rfl⟩
       · exact Bh s f _ _ _ _ h
   · injection h with h; subst h; exact ⟨fun _ => rfl, fun h => absurd rfl h⟩
theorem Gs {s : ByteArray} {f : Nat} {a c : Int} {acc : List Dm} {r : RR} (hr : xq s f a c acc = some r) : uj s f a c acc = r := by
 unfold uj
 rw [hr]; rfl
theorem Tf {f : Nat} {s : ByteArray} {r : RR} (hr : Jq f s = some r) : kE f s = r := by
 unfold kE
 rw [hr]; rfl
theorem OI (g : Nat) : ∀ x ∈ WM g, x.2.2.Ok prog := all_cons SC (all_cons E9 (all_cons (VQ g) (all_cons E9 (all_cons Yt all_nil))))
theorem Gw {g : Nat} (s : ByteArray) (x : LX) : Sound (Te g) (.loop Gu) (jH ((Ju g).live.h.zip (Lm s)) (Tk s x)) ((Tm s g x).map (OutC.st (Ju g).live)) := by
 refine qA mixed (ks := WM g) (ls := [Ju g]) (c := Gu) (nb := 0) (N := 46) (OI g) (gD (by kernel_rfl)) (Ju g).live (fun _ : LX => Lm s) (fun x => Tk s x) (fun x => Tm s g x) (fun x => x.f)
  (Q := fun x => OT s g x.a x.c x.acc) (fun x post hp => ?_) (fun a Rn Re => by kernel_rfl) x
 obtain ⟨f, a, c, acc⟩ := x
 obtain ⟨⟨hf, hs, hc, ha, hsome⟩, hp0⟩ := hp
 obtain ⟨R, hR⟩ := Option.isSome_iff_exists.1 hsome
 have hp : (XO s (uj s f a c acc)).holds post := hp0
 clear hp0
 rw [Gs hR] at hp
 simp only at hf hs hc ha hR
 have hcl := hc.1
 have hcu := hc.2
 cases f with
 | zero => simp [xq] at hR
 | succ f =>
 rw [xq] at hR
 unfold OT
 refine ⟨fun hlt => ?_, fun hlt => ?_⟩
 · rw [if_pos (of_decide_eq_true hlt)] at hR
   split at hR
   · cases hR
   · rename_i r hr
     have er := xD (g := g) (by omega : f <= g) hr
     obtain ⟨k1, k2, k3, k4⟩ := (xE s f).1 _ _ _ _ hr hs hc
     refine ⟨aF _, aP _, ⟨hs, hc, ⟨by omega, by omega⟩, by rw [uO (by omega : f <= g) hr]; rfl⟩, fun he => ?_, fun he => ⟨by show (acc.length + 1) * 56 <= 140737488355328; omega, aF _, aP _, by rw [er]; exact k1, ?_⟩⟩
     · rw [er] at he ⊢
       have he : r.e ≠ 0 := by simpa using he
       rw [if_pos he] at hR
       injection hR with hR
       rw [← hR] at hp
       exact l5.mk (hp.2 (by simpa using he)) (aF _) (aJ _)
     · rw [er] at he ⊢
       have he : r.e = 0 := by simpa using he
       rw [if_neg (by simpa using he)] at hR
       have c1 := uL s r.a
       have c2 := uM s r.a k1.2.2
       refine ⟨⟨f, blk s r.a, r.c, acc ++ [r.d]⟩, Nat.lt_succ_self f, aF _, ?_, ⟨by simp only; omega, ⟨k1.1, by have := k1.2.1; simp only; omega, c2⟩, ⟨Int.le_trans hcl k3, k2 he⟩, by have := k4 he; simp; omega, by simp only; rw [hR]; rfl⟩, ?_⟩
       · rw [he]
         exact ⟨fO _, ⟨rfl, rfl, by simp, fun k hk j hj => Ij acc r.d k j hk hj⟩, trivial⟩
       · simp only
         rw [Gs hR]; exact hp
 · rw [if_neg (of_decide_eq_false hlt)] at hR
   injection hR with hR
   rw [← hR] at hp
   exact l5.mk (hp.1 rfl) (aF _) (aJ _)
theorem WT {g : Nat} : JY (Te g) (Ju g) Gu := by
 intro svs obl args obs out h
 unfold Ju at h
 simp only at h
 repeat' split at h
 all_goals first
  | (simp only [Option.some.injEq, Prod.mk.injEq] at h; obtain ⟨rfl, rfl, rfl⟩ := h; apply Gw)
  | cases h
theorem Qe {g : Nat} : (Te g).Lok (bH (bI yC)) := by
 have hl : bH (bI yC) = [Gu] := by kernel_rfl
 rw [hl]
 refine kX fun f h c hc hr => ?_
 rw [List.mem_singleton] at hc h
 subst hc; subst h
 exact WT
theorem Tg (g : Nat) (s : ByteArray) : Ctr prog Kn [vS s] [] (afl g s) := by
 refine jo mixed (N := 46) (fn := yC) (c := bI yC) (ks := WM g) (ls := [Ju g]) (by kernel_rfl) (by kernel_rfl) (by kernel_rfl) (OI g) yS Qe (by kernel_rfl) (Q := XM s g) (fun post hp => ?_) (fun R => by kernel_rfl)
 obtain ⟨⟨hs, hsome⟩, hp⟩ := hp
 have hp : post (.tup [dmA (kE g s).l, vI .i64 (kE g s).i, vI .i64 (kE g s).e], []) := hp
 obtain ⟨R, hR⟩ := Option.isSome_iff_exists.1 hsome
 rw [Tf hR] at hp
 have hR' : xq s g (blk s 0) 0 gT = some R := hR
 have eR := Gs hR'
 have b1 := uL s 0
 have b2 := uM s 0 (by omega)
 obtain ⟨k1, k2⟩ := Bh _ _ _ _ _ _ hR
 unfold XM
 refine ⟨fun h => absurd (of_decide_eq_true h) (by omega), fun _ => ⟨aF _, ⟨⟨rfl, aI _, (mW _ _ _).2 rfl, (mW _ _ _).2 rfl, (mW _ _ _).2 rfl, trivial⟩, trivial⟩, ⟨hs, by omega, by omega⟩, ⟨aI _, aI _, aI _, trivial⟩,
  ⟨fO _, ⟨rfl, rfl, rfl, fun k hk => absurd hk (by simp)⟩, trivial⟩, ⟨Nat.le_refl _, ⟨hs, by omega, b2⟩, ⟨by omega, by omega⟩, by simp [gT], by rw [hR']; rfl⟩, fun he => ⟨aF _, trivial, trivial, ?_⟩, fun he => ⟨trivial, ?_⟩⟩⟩
 · rw [eR] at he ⊢
   have he : R.e = 0 := by simpa using he
   refine uU hp ?_
   rw [he, k1 he]
   exact aI _
 · rw [eR] at he ⊢
   have he : R.e ≠ 0 := by simpa using he
   refine uU hp ?_
   rw [k2 he]
   simp only [Wv, tN, xO, and_true]
   refine ⟨?_, aI _, aI _⟩
   unfold dmA
   rw [F6]
   simp only [bY]
   exact ⟨rfl, rfl⟩
end Rd
