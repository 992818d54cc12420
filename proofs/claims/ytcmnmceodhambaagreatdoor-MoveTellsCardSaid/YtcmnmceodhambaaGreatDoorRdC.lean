/- The reader's recursion. -/
import Derived.Test.YtcmnmceodhambaaGreatDoorRdB
set_option linter.unusedSimpArgs false
set_option linter.unusedVariables false
open Rx Go
namespace Rd
theorem Ql : noF.Ok prog := by
 intro al ol args obs out h
 cases h
theorem Kq {g : Nat} (hD : (AQ g).Ok prog) : ∀ x ∈ RU g, x.2.2.Ok prog :=
 all_cons EM (all_cons uX (all_cons uX (all_cons uX (all_cons uX (all_cons hD (all_cons Ql (all_cons EM (all_cons hD (all_cons Ui all_nil)))))))))
theorem xX {s : ByteArray} {f g : Nat} {lv a c : Int} {r : PR} (h : f <= g) (hr : iC s f lv a c = some r) : aY s g lv a c = r := by
 unfold aY
 rw [jP h hr]; rfl
theorem FV {s : ByteArray} {f : Nat} {lv a c : Int} {acc : List Dm} {r : PR} (hr : j4 s f lv a c acc = some r) : jY s f lv a c acc = r := by
 unfold jY
 rw [hr]; rfl
theorem Fp {g : Nat} (hD : (AQ g).Ok prog) (s : ByteArray) (lv : Int) (x : LX) : Sound (Oe g) (.loop DZ) (jB ((G8 g).live.h.zip (JZ lv)) (Pj s x)) ((Qh s g lv x).map (OutC.st (G8 g).live)) := by
 refine qD mixed (ks := RU g) (ls := [G8 g]) (c := DZ) (nb := 1) (N := 153) (Kq hD) (fV (by kernel_rfl)) (G8 g).live (fun _ : LX => JZ lv) (fun x => Pj s x) (fun x => Qh s g lv x) (fun x => x.f)
  (Q := fun x => Lu s g lv x.a x.c x.acc) (fun x post hp => ?_) (fun a Rn Re => by kernel_rfl) x
 obtain ⟨f, a, c, acc⟩ := x
 obtain ⟨⟨hf, hs, hc, ⟨hl1, hl2⟩, ha, hsome⟩, hp⟩ := hp
 have hp : post (.ret, [.ptr 1 0], [some (pOb s (jY s f lv a c acc).a (jY s f lv a c acc).c (jY s f lv a c acc).e),
  some (.cells jU [vI .i64 4, vI .i64 0, vS noS, .nm 2]), some (.row jU 4 (jY s f lv a c acc).d.l.length (dmL (jY s f lv a c acc).d.l))]) := hp
 obtain ⟨R, hR⟩ := Option.isSome_iff_exists.1 hsome
 have eR := FV hR
 simp only at hf hs hc ha hR
 have b1 := vv s a
 have b2 := vk s a hs.2.2
 have hb : okS s (blk s a) := ⟨hs.1, by have := hs.2.1; omega, b2⟩
 cases f with
 | zero => simp [j4] at hR
 | succ f =>
 have call : ¬ (blk s a < s.size /\ au s (blk s a) = 41) -> ∃ r, iC s f (lv + 1) (blk s a) c = some r /\ (if r.e ≠ 0 then R = ⟨.mk 4 0 noS acc, r.a, r.c, r.e⟩ else j4 s f lv r.a r.c (acc ++ [r.d]) = some R) := fun h => by
  rw [j4, if_neg h] at hR
  split at hR
  · cases hR
  · rename_i r hr
    refine ⟨r, hr, ?_⟩
    split at hR
    · rename_i g; rw [if_pos g]; injection hR with hR; exact hR.symm
    · rename_i g; rw [if_neg g]; exact hR
 unfold Lu
 simp only [lo, hi]
 have part : ¬ (blk s a < s.size /\ au s (blk s a) = 41) -> _ := fun h => call h
 refine ⟨aI _, aR _, hs, fun _ => ⟨fun hlt => ⟨⟨hb.2.1, of_decide_eq_true hlt⟩, fun h41 => ⟨⟨by have := hb.2.1; omega, by have := hs.1; omega⟩, ?_⟩, fun h41 => ?_⟩, fun hlt => ?_⟩, fun h => (by cases h)⟩
 · have hlt := of_decide_eq_true hlt
   have h41 : au s (blk s a) = 41 := by simpa using h41
   rw [j4, if_pos ⟨hlt, h41⟩] at hR
   injection hR with hR
   rw [eR, ← hR] at hp
   exact l9.mk hp (aI _) (aL _)
 all_goals
  obtain ⟨r, hr, hRr⟩ := call (by first | (rintro ⟨_, h⟩; simp [h] at h41; done) | (rintro ⟨h, _⟩; simp [h] at hlt; done))
  have er := xX (g := g) (by omega : f <= g) hr
  obtain ⟨k1, k2, k3, k4⟩ := (xY s f).1 _ _ _ _ hr hb hc
  refine ⟨⟨by omega, by omega⟩, aI _, aR _, ⟨hb, hc, ⟨by omega, by omega⟩, by rw [jP (by omega : f <= g) hr]; rfl⟩, fun he => ?_, fun he => ⟨by have := hc.2; omega, ?_⟩⟩
  · rw [er] at he ⊢
    have he : r.e ≠ 0 := by simpa using he
    rw [if_pos he] at hRr
    rw [eR, hRr] at hp
    exact l9.mk hp (aI _) (aL _)
  · rw [er] at he ⊢
    have he : r.e = 0 := by simpa using he
    rw [if_neg (by simpa using he)] at hRr
    rw [eR] at hp
    refine ⟨⟨f, r.a, r.c, acc ++ [r.d]⟩, Nat.lt_succ_self f, aI _, ?_, ⟨by simp only; omega, k1, ⟨Int.le_trans hc.1 k3, k2 he⟩, ⟨hl1, hl2⟩, by have := k4 he; simp; omega, by simp only; rw [hRr]; rfl⟩, ?_⟩
    · rw [he]
      refine ⟨dN _, dN _, dN _, ⟨rfl, rfl, by simp, fun k hk j hj => Gw acc r.d k j hk hj⟩, trivial⟩
    · simp only
      have : post (.ret, [.ptr 1 0], [some (pOb s (jY s f lv r.a r.c (acc ++ [r.d])).a (jY s f lv r.a r.c (acc ++ [r.d])).c (jY s f lv r.a r.c (acc ++ [r.d])).e),
        some (.cells jU [vI .i64 4, vI .i64 0, vS noS, .nm 2]), some (.row jU 4 (jY s f lv r.a r.c (acc ++ [r.d])).d.l.length (dmL (jY s f lv r.a r.c (acc ++ [r.d])).d.l))]) := by
        rw [FV hRr]; exact hp
      exact this
end Rd
set_option linter.unusedSimpArgs false
set_option linter.unusedVariables false
open Rx Go
namespace Rd
theorem Q7 {g : Nat} (hD : (AQ g).Ok prog) : IG (Oe g) (G8 g) DZ := by
 intro svs obl args obs out h
 unfold G8 at h
 simp only at h
 repeat' split at h
 all_goals first
  | (simp only [Option.some.injEq, Prod.mk.injEq] at h; obtain ⟨rfl, rfl, rfl⟩ := h; apply Fp hD)
  | cases h
theorem ML {g : Nat} (hD : (AQ g).Ok prog) : (Oe g).Lok (bL (bQ uG)) := by
 have hl : bL (bQ uG) = [DZ] := by kernel_rfl
 rw [hl]
 refine kZ fun f h c hc hr => ?_
 rw [List.mem_singleton] at hc h
 subst hc; subst h
 exact Q7 hD
theorem Qi (d : Dm) : leS (.agg [vI .i64 4, .ki .i64 0, vS ⟨#[]⟩, .dt (.arr 4 2 (eO 4 [Dt.cell (.int .i64 3), .cell (.int .i64 0), .cell (.string mQ), .cell (.slice none 0 0), .cell (.int .i64 d.k), .cell (.int .i64 d.n), .cell (.string d.s), .arr 4 d.l.length (dmL d.l)]))]) (dmS (.mk 4 0 noS [.mk 3 0 mQ [], d])) := by
 simp only [dmS, dmA, Dm.k, Dm.n, Dm.s, Dm.l, Ew, uF, x9, and_true]
 refine ⟨aK _, (mF _ _ _).2 rfl, aK _, ?_⟩
 rw [FP, NJ]
 refine ⟨rfl, .inr ⟨rfl, fun k hk j hj => ?_⟩⟩
 rw [xW hj (by simp; omega)]
 match k, hk with
 | 0, _ =>
   match j, hj with
   | 0, _ => simp [dmL, dmT, bX]
   | 1, _ => simp [dmL, dmT, bX]
   | 2, _ => simp [dmL, dmT, bX]
   | 3, _ => simp [dmL, dmT, bX, isNil]
 | 1, _ =>
   have e : dmL [.mk 3 0 mQ [], d] 1 j = dmT d j := by simp [dmL]
   rw [e, PD d j hj]
   match j, hj with
   | 0, _ => exact dw _
   | 1, _ => exact dw _
   | 2, _ => exact dw _
   | 3, _ => exact dw _
theorem zR {g : Nat} (hD : (AQ g).Ok prog) (s : ByteArray) (lv a c : Int) : Ctr prog xB [.ptr 0 0, vI .i64 lv] [pOb s a c 0] (Fa s (g + 1) lv a c) := by
 refine ji mixed (N := 153) (fn := uG) (c := bQ uG) (ks := RU g) (ls := [G8 g]) (by kernel_rfl) (by kernel_rfl) (by kernel_rfl) (Kq hD) ⟨true, none⟩ (ML hD) (by kernel_rfl) (Q := OD s g lv a c) (fun post hp => ?_) (fun R => by kernel_rfl)
 obtain ⟨⟨hs, hc, hl, hsome⟩, hp⟩ := hp
 have hp : post (dmS (aY s (g + 1) lv a c).d, [some (pOb s (aY s (g + 1) lv a c).a (aY s (g + 1) lv a c).c (aY s (g + 1) lv a c).e)]) := hp
 obtain ⟨R, hR⟩ := Option.isSome_iff_exists.1 hsome
 rw [xX (Nat.le_refl _) hR] at hp
 have b1 := vv s a
 have b2 := vk s a hs.2.2
 have hb : okS s (blk s a) := ⟨hs.1, by have := hs.2.1; omega, b2⟩
 have hcl := hc.1
 have hcu := hc.2
 have hl1 := hl.1
 have hl2 := hl.2
 have hs1 := hs.1
 have hb0 := hb.2.1
 have leaf : ∀ {v : SV} {d : Dm} {a c e : Int}, R = ⟨d, a, c, e⟩ -> leS v (dmS d) -> Gives post v [some (pOb s a c e)] := fun h hv => by
  rw [h] at hp; exact lS hp hv (aL _)
 rw [iC] at hR
 unfold OD
 simp only [lo, hi]
 refine ⟨aI _, aR _, hs, fun h => (by cases h), fun _ => ⟨fun h => ⟨aI _, aR _, trivial, ?_⟩, fun h1 => ⟨⟨by omega, by omega⟩, fun h => ⟨aI _, aR _, trivial, ?_⟩, fun h2 =>
  ⟨fun h => ⟨aI _, aR _, trivial, ?_⟩, fun h3 => ?_⟩⟩⟩⟩
 · have h : blk s a = s.size := by simpa using h
   rw [if_pos h] at hR
   injection hR with hR
   exact leaf hR.symm (aK _)
 · have h1 : ¬ blk s a = s.size := by simpa using h1
   rw [if_neg h1, if_pos (of_decide_eq_true h)] at hR
   injection hR with hR
   exact leaf hR.symm (aK _)
 · have h1 : ¬ blk s a = s.size := by simpa using h1
   rw [if_neg h1, if_neg (of_decide_eq_false h2), if_pos (of_decide_eq_true h)] at hR
   injection hR with hR
   exact leaf hR.symm (aK _)
 have h1 : ¬ blk s a = s.size := by simpa using h1
 have h2 := of_decide_eq_false h2
 have h3 := of_decide_eq_false h3
 rw [if_neg h1, if_neg h2, if_neg h3] at hR
 have hb1 : okS s (blk s a + 1) := ⟨hs1, by omega, by omega⟩
 have hc1 : okC (c + 1) := ⟨by omega, by omega⟩
 refine ⟨⟨hb0, by omega⟩, fun h => ⟨aI _, aR _, trivial, ?_⟩, fun h41 => ?_⟩
 · have h : au s (blk s a) = 41 := by simpa using h
   rw [if_pos h] at hR
   injection hR with hR
   exact leaf hR.symm (aK _)
 have h41 : ¬ au s (blk s a) = 41 := by simpa using h41
 rw [if_neg h41] at hR
 refine ⟨fun h => ?_, fun h39 => ?_⟩
 · have h : au s (blk s a) = 39 := by simpa using h
   rw [if_pos h] at hR
   obtain ⟨r, hr, hRr⟩ := Option.map_eq_some_iff.1 hR
   refine ⟨⟨by omega, by omega⟩, ⟨by omega, by omega⟩, aI _, aR _, ⟨hb1, hc1, ⟨by omega, by omega⟩, by rw [hr]; rfl⟩, trivial, ?_⟩
   rw [xX (Nat.le_refl _) hr]
   exact leaf hRr.symm (Qi r.d)
 have h39 : ¬ au s (blk s a) = 39 := by simpa using h39
 rw [if_neg h39] at hR
 refine ⟨fun h => ?_, fun h40 => ?_⟩
 · have h : au s (blk s a) = 40 := by simpa using h
   rw [if_pos h] at hR
   obtain ⟨k1, k2, k3, k4⟩ := (xY s g).2 _ _ _ _ _ hR hb1 hc1
   refine ⟨⟨by omega, by omega⟩, ⟨aK _, aK _, aK _, aK _, trivial⟩, ?_, ⟨Nat.le_refl _, hb1, hc1, ⟨by omega, by omega⟩, by simp [gF]; omega, by
    show (j4 s g lv (blk s a + 1) (c + 1) []).isSome = true
    rw [hR]; rfl⟩, trivial, ?_⟩
   · exact ⟨dN _, dN _, ⟨rfl, aK _, (mF _ _ _).2 rfl, aK _, aK _, trivial⟩, ⟨rfl, rfl, rfl, fun k hk => absurd hk (by simp)⟩, trivial⟩
   · have e : jY s g lv (blk s a + 1) (c + 1) gF = R := FV hR
     rw [e]
     refine leaf (d := .mk 4 0 noS R.d.l) (a := R.a) (c := R.c) (e := R.e) (by rw [← k4]) (aK _)
 · have h40 : ¬ au s (blk s a) = 40 := by simpa using h40
   rw [if_neg h40] at hR
   injection hR with hR
   exact ⟨aI _, aR _, ⟨hb, hb0, Int.le_refl _⟩, trivial, leaf hR.symm (aK _)⟩
theorem KO : ∀ f : Nat, (AQ f).Ok prog := by
 have key : ∀ f : Nat, (∀ (s : ByteArray) (lv a c : Int), Ctr prog xB [.ptr 0 0, vI .i64 lv] [pOb s a c 0] (Fa s f lv a c)) -> (AQ f).Ok prog := by
  intro f hf al ol args obs out h
  unfold AQ at h
  simp only at h
  repeat' split at h
  all_goals first
   | (simp only [Option.some.injEq, Prod.mk.injEq] at h; obtain ⟨rfl, rfl, rfl⟩ := h; apply hf)
   | cases h
 intro f
 induction f with
 | zero => exact key 0 fun s lv a c => sj fun h => by obtain ⟨_, _, _, h⟩ := h; simp [iC] at h
 | succ f ih => exact key (f + 1) fun s lv a c => zR ih s lv a c
theorem Ve (s : ByteArray) (f : Nat) (lv a c : Int) : Ctr prog xB [.ptr 0 0, vI .i64 lv] [pOb s a c 0] (Fa s f lv a c) := by
 cases f with
 | zero => exact sj fun h => by obtain ⟨_, _, _, h⟩ := h; simp [iC] at h
 | succ f => exact zR (KO f) s lv a c
end Rd
set_option linter.unusedSimpArgs false
set_option linter.unusedVariables false
open Rx Go
namespace Rd
structure RR where
 l : List Dm
 i : Int
 e : Int
instance : Inhabited RR := ⟨⟨[], 0, 0⟩⟩
def lG (s : ByteArray) : Nat -> Int -> Int -> List Dm -> Option RR
 | 0, _, _, _ => none
 | f + 1, a, c, acc =>
   if a < s.size then match iC s f 1 a c with
     | none => none
     | some r => if r.e ≠ 0 then some ⟨[], r.a, r.e⟩ else lG s f (blk s r.a) r.c (acc ++ [r.d])
   else some ⟨acc, 0, 0⟩
def uE (s : ByteArray) (f : Nat) (a c : Int) (acc : List Dm) : RR := (lG s f a c acc).getD default
def qy (f : Nat) (s : ByteArray) : Option RR := lG s f (blk s 0) 0 []
def jW (f : Nat) (s : ByteArray) : RR := (qy f s).getD default
def Sq (f : Nat) (s : ByteArray) : T Out := .need (s.size <= 3000 /\ (qy f s).isSome = true) (.ret (.tup [dmA (jW f s).l, vI .i64 (jW f s).i, vI .i64 (jW f s).e], []))
def Tc (f : Nat) : FC := ⟨Ey, false, false, fun al ol => match al, ol with
 | [x], [] => match rdS x with
   | some s => some ([vS s], [], Sq f s)
   | none => none
 | _, _ => none⟩
def J2 (s : ByteArray) : List SV := [vS s, .ptr 0 0, .nm 1]
def Nk (s : ByteArray) (x : LX) : List (Option Ob) := [some (pOb s x.a x.c 0), some (.row jU 4 x.acc.length (dmL x.acc))]
def SN (s : ByteArray) (r : RR) : T OutC := .ite (r.e == 0) (.ret (.exit 0, [.nm 0], [some (.row jU 4 r.l.length (dmL r.l))])) (.ret (.ret, [.dt (.cell (.slice none 0 0)), vI .i64 r.i, vI .i64 r.e], []))
def OX (s : ByteArray) (g : Nat) (x : LX) : T OutC := .need (x.f <= g /\ okS s x.a /\ okC x.c /\ x.acc.length <= x.c /\ (lG s x.f x.a x.c x.acc).isSome = true) (SN s (uE s x.f x.a x.c x.acc))
def Ig (g : Nat) : LF := ⟨6, ⟨[0, 5, 6], [6], [2, 3, 4]⟩, fun svs obl => match svs, obl with
 | [_, .ptr 0 0, .nm 1], some (.cells _ [s, a, c, _]) :: _ => match rdS s, rdI a, rdI c with
   | some s, some a, some c => some (J2 s, Nk s ⟨g, a, c, gF⟩, OX s g ⟨g, a, c, gF⟩)
   | _, _, _ => none
 | _, _ => none⟩
def QX (g : Nat) : List (Nat × Nat × FC) := [(4, 0, noF), (5, 1, bkF), (8, 1, AQ g), (7, 1, bkF), (12, 1, clF)]
noncomputable def Pt (g : Nat) : Env := fnE prog 46 0 (QX g) [Ig g]
noncomputable def Ep : Code := (jq 6 (bQ zZ)).getD .skip
def LG (s : ByteArray) (g : Nat) (a c : Int) (acc : List Dm) (Rn : List SV -> List (Option Ob) -> Prop) (Re : Ex -> List SV -> List (Option Ob) -> Prop) : Prop :=
(((decide (a < (↑s.size : Int)) = true) ->
 ((Rx.leL ([SV.ptr 0 0, SV.dt (Dt.cell (.int .i64 (1 : Int)))]) ([SV.ptr 0 0, SV.dt (Dt.cell (.int .i64 (1 : Int)))])) /\
  ((Rx.bg ([Ob.cells 101 [SV.dt (Dt.cell (.string s)), SV.dt (Dt.cell (.int .i64 a)), SV.dt (Dt.cell (.int .i64 c)), SV.dt (Dt.cell (.int .i64 (0 : Int)))]]) ([Ob.cells 101 [SV.dt (Dt.cell (.string s)), SV.dt (Dt.cell (.int .i64 a)), SV.dt (Dt.cell (.int .i64 c)), SV.dt (Dt.cell (.int .i64 (0 : Int)))]])) /\
   (((Rd.okS s a) /\
     ((Rd.okC c) /\
      ((Rd.okL (1 : Int)) /\
       ((Rd.iC s g (1 : Int) a c).isSome = true)))) /\
    (((((Rd.aY s g (1 : Int) a c).e != (0 : Int)) = true) ->
      Re (Rx.Ex.ret) ([SV.dt (Dt.cell (.slice Option.none (0 : Nat) (0 : Nat))), SV.dt (Dt.cell (.int .i64 (Rd.aY s g (1 : Int) a c).a)), SV.dt (Dt.cell (.int .i64 (Rd.aY s g (1 : Int) a c).e))]) ([])) /\
     ((((Rd.aY s g (1 : Int) a c).e != (0 : Int)) = false) ->
      (((acc.length + (1 : Nat)) * (56 : Nat) <= (140737488355328 : Nat)) /\
       ((Rx.leL ([SV.ptr 0 0]) ([SV.ptr 0 0])) /\
        ((Rx.bg ([Ob.cells 101 [SV.dt (Dt.cell (.string s)), SV.dt (Dt.cell (.int .i64 (Rd.aY s g (1 : Int) a c).a)), SV.dt (Dt.cell (.int .i64 (Rd.aY s g (1 : Int) a c).c)), SV.dt (Dt.cell (.int .i64 (Rd.aY s g (1 : Int) a c).e))]]) ([Ob.cells 101 [SV.dt (Dt.cell (.string s)), SV.dt (Dt.cell (.int .i64 (Rd.aY s g (1 : Int) a c).a)), SV.dt (Dt.cell (.int .i64 (Rd.aY s g (1 : Int) a c).c)), SV.dt (Dt.cell (.int .i64 (Rd.aY s g (1 : Int) a c).e))]])) /\
         ((Rd.okS s (Rd.aY s g (1 : Int) a c).a) /\
          Rn ([SV.dt (Dt.cell (.string s)), SV.ptr 0 0, SV.nm 1]) ([some (Ob.cells 101 [SV.dt (Dt.cell (.string s)), SV.dt (Dt.cell (.int .i64 (Rd.blk s (Rd.aY s g (1 : Int) a c).a))), SV.dt (Dt.cell (.int .i64 (Rd.aY s g (1 : Int) a c).c)), SV.dt (Dt.cell (.int .i64 (Rd.aY s g (1 : Int) a c).e))]), some (Ob.row 47 4 (acc.length + (1 : Nat)) (Rx.bH acc.length (Rd.dmL acc) (Rx.eO (4 : Nat) [Rx.Dt.cell (.int .i64 (Rd.aY s g (1 : Int) a c).d.k), Rx.Dt.cell (.int .i64 (Rd.aY s g (1 : Int) a c).d.n), Rx.Dt.cell (.string (Rd.aY s g (1 : Int) a c).d.s), Rx.Dt.arr (4 : Nat) (Rd.aY s g (1 : Int) a c).d.l.length (Rd.dmL (Rd.aY s g (1 : Int) a c).d.l)])))]))))))))))) /\
((decide (a < (↑s.size : Int)) = false) ->
 Re (Rx.Ex.exit (0 : Nat)) ([SV.nm 0]) ([some (Ob.row 47 4 (acc.length) (Rd.dmL acc))])))
def Sn (s : ByteArray) (g : Nat) (R : SV -> List (Option Ob) -> Prop) : Prop :=
(((decide ((↑s.size : Int) > (3000 : Int)) = true) ->
 (True /\
  R (SV.tup [SV.dt (Dt.cell (.slice Option.none (0 : Nat) (0 : Nat))), SV.dt (Dt.cell (.int .i64 (0 : Int))), SV.dt (Dt.cell (.int .i64 (1 : Int)))]) ([]))) /\
((decide ((↑s.size : Int) > (3000 : Int)) = false) ->
 ((Rx.leL ([SV.ptr 0 0]) ([SV.ptr 0 0])) /\
  ((Rx.bg ([Ob.cells 101 [SV.dt (Dt.cell (.string s)), SV.ki .i64 ((0 : Int)), SV.ki .i64 ((0 : Int)), SV.ki .i64 ((0 : Int))]]) ([Ob.cells 101 [SV.dt (Dt.cell (.string s)), SV.dt (Dt.cell (.int .i64 (0 : Int))), SV.dt (Dt.cell (.int .i64 (0 : Int))), SV.dt (Dt.cell (.int .i64 (0 : Int)))]])) /\
   ((Rd.okS s (0 : Int)) /\
    (((Rx.leS (SV.dt (Dt.cell (.string s))) (SV.dt (Dt.cell (.string s)))) /\
      ((Rx.leS (SV.ptr 0 0) (SV.ptr 0 0)) /\
       ((Rx.leS (SV.nm 1) (SV.nm 1)) /\
        True))) /\
     ((Rx.leOO ([some (Ob.cells 101 [SV.dt (Dt.cell (.string s)), SV.dt (Dt.cell (.int .i64 (Rd.blk s (0 : Int)))), SV.dt (Dt.cell (.int .i64 (0 : Int))), SV.dt (Dt.cell (.int .i64 (0 : Int)))]), some (Ob.row 47 4 ((0 : Nat)) (fun x x_1 => Rx.aW))]) ([some (Ob.cells 101 [SV.dt (Dt.cell (.string s)), SV.dt (Dt.cell (.int .i64 (Rd.blk s (0 : Int)))), SV.dt (Dt.cell (.int .i64 (0 : Int))), SV.dt (Dt.cell (.int .i64 (0 : Int)))]), some (Ob.row 47 4 (Rd.gF.length) (Rd.dmL Rd.gF))])) /\
      (((g <= g) /\
        ((Rd.okS s (Rd.blk s (0 : Int))) /\
         ((Rd.okC (0 : Int)) /\
          (((↑Rd.gF.length : Int) <= (0 : Int)) /\
           ((Rd.lG s g (Rd.blk s (0 : Int)) (0 : Int) Rd.gF).isSome = true))))) /\
       (((((Rd.uE s g (Rd.blk s (0 : Int)) (0 : Int) Rd.gF).e == (0 : Int)) = true) ->
         ((Rx.leL ([SV.dt (Dt.arr ((4 : Nat)) ((Rd.uE s g (Rd.blk s (0 : Int)) (0 : Int) Rd.gF).l.length) (Rd.dmL (Rd.uE s g (Rd.blk s (0 : Int)) (0 : Int) Rd.gF).l))]) ([SV.dt (Dt.arr ((4 : Nat)) ((Rd.uE s g (Rd.blk s (0 : Int)) (0 : Int) Rd.gF).l.length) (Rd.dmL (Rd.uE s g (Rd.blk s (0 : Int)) (0 : Int) Rd.gF).l))])) /\
          ((Rx.bg ([]) ([])) /\
           (True /\
            R (SV.tup [SV.dt (Dt.arr ((4 : Nat)) ((Rd.uE s g (Rd.blk s (0 : Int)) (0 : Int) Rd.gF).l.length) (Rd.dmL (Rd.uE s g (Rd.blk s (0 : Int)) (0 : Int) Rd.gF).l)), SV.dt (Dt.cell (.int .i64 (0 : Int))), SV.dt (Dt.cell (.int .i64 (0 : Int)))]) ([]))))) /\
        ((((Rd.uE s g (Rd.blk s (0 : Int)) (0 : Int) Rd.gF).e == (0 : Int)) = false) ->
         (True /\
          R (SV.tup [SV.dt (Dt.cell (.slice Option.none (0 : Nat) (0 : Nat))), SV.dt (Dt.cell (.int .i64 (Rd.uE s g (Rd.blk s (0 : Int)) (0 : Int) Rd.gF).i)), SV.dt (Dt.cell (.int .i64 (Rd.uE s g (Rd.blk s (0 : Int)) (0 : Int) Rd.gF).e))]) ([]))))))))))))
theorem zJ (s : ByteArray) : ∀ (f : Nat) (a c : Int) (acc : List Dm) (r : RR), lG s f a c acc = some r -> (r.e = 0 -> r.i = 0) /\ (r.e ≠ 0 -> r.l = [])
 | 0, _, _, _, _, h => by simp [lG] at h
 | f + 1, a, c, acc, r, h => by
   rw [lG] at h
   split at h
   · split at h
     · cases h
     · rename_i q _
       split at h
       · rename_i g; injection h with h; subst h; exact ⟨fun h => absurd h g, fun _ => rfl⟩
       · exact zJ s f _ _ _ _ h
   · injection h with h; subst h; exact ⟨fun _ => rfl, fun h => absurd rfl h⟩
theorem FJ {s : ByteArray} {f : Nat} {a c : Int} {acc : List Dm} {r : RR} (hr : lG s f a c acc = some r) : uE s f a c acc = r := by
 unfold uE
 rw [hr]; rfl
theorem Nv {f : Nat} {s : ByteArray} {r : RR} (hr : qy f s = some r) : jW f s = r := by
 unfold jW
 rw [hr]; rfl
theorem Kk (g : Nat) : ∀ x ∈ QX g, x.2.2.Ok prog := all_cons Ql (all_cons EM (all_cons (KO g) (all_cons EM (all_cons TH all_nil))))
theorem FD {g : Nat} (s : ByteArray) (x : LX) : Sound (Pt g) (.loop Ep) (jB ((Ig g).live.h.zip (J2 s)) (Nk s x)) ((OX s g x).map (OutC.st (Ig g).live)) := by
 refine qD mixed (ks := QX g) (ls := [Ig g]) (c := Ep) (nb := 0) (N := 46) (Kk g) (fV (by kernel_rfl)) (Ig g).live (fun _ : LX => J2 s) (fun x => Nk s x) (fun x => OX s g x) (fun x => x.f)
  (Q := fun x => LG s g x.a x.c x.acc) (fun x post hp => ?_) (fun a Rn Re => by kernel_rfl) x
 obtain ⟨f, a, c, acc⟩ := x
 obtain ⟨⟨hf, hs, hc, ha, hsome⟩, hp0⟩ := hp
 obtain ⟨R, hR⟩ := Option.isSome_iff_exists.1 hsome
 have hp : (SN s (uE s f a c acc)).holds post := hp0
 clear hp0
 rw [FJ hR] at hp
 simp only at hf hs hc ha hR
 have hcl := hc.1
 have hcu := hc.2
 cases f with
 | zero => simp [lG] at hR
 | succ f =>
 rw [lG] at hR
 unfold LG
 refine ⟨fun hlt => ?_, fun hlt => ?_⟩
 · rw [if_pos (of_decide_eq_true hlt)] at hR
   split at hR
   · cases hR
   · rename_i r hr
     have er := xX (g := g) (by omega : f <= g) hr
     obtain ⟨k1, k2, k3, k4⟩ := (xY s f).1 _ _ _ _ hr hs hc
     refine ⟨aI _, aR _, ⟨hs, hc, ⟨by omega, by omega⟩, by rw [jP (by omega : f <= g) hr]; rfl⟩, fun he => ?_, fun he => ⟨by show (acc.length + 1) * 56 <= 140737488355328; omega, aI _, aR _, by rw [er]; exact k1, ?_⟩⟩
     · rw [er] at he ⊢
       have he : r.e ≠ 0 := by simpa using he
       rw [if_pos he] at hR
       injection hR with hR
       rw [← hR] at hp
       exact l9.mk (hp.2 (by simpa using he)) (aI _) (aL _)
     · rw [er] at he ⊢
       have he : r.e = 0 := by simpa using he
       rw [if_neg (by simpa using he)] at hR
       have c1 := vv s r.a
       have c2 := vk s r.a k1.2.2
       refine ⟨⟨f, blk s r.a, r.c, acc ++ [r.d]⟩, Nat.lt_succ_self f, aI _, ?_, ⟨by simp only; omega, ⟨k1.1, by have := k1.2.1; simp only; omega, c2⟩, ⟨Int.le_trans hcl k3, k2 he⟩, by have := k4 he; simp; omega, by simp only; rw [hR]; rfl⟩, ?_⟩
       · rw [he]
         exact ⟨dN _, ⟨rfl, rfl, by simp, fun k hk j hj => Gw acc r.d k j hk hj⟩, trivial⟩
       · simp only
         rw [FJ hR]; exact hp
 · rw [if_neg (of_decide_eq_false hlt)] at hR
   injection hR with hR
   rw [← hR] at hp
   exact l9.mk (hp.1 rfl) (aI _) (aL _)
theorem QZ {g : Nat} : IG (Pt g) (Ig g) Ep := by
 intro svs obl args obs out h
 unfold Ig at h
 simp only at h
 repeat' split at h
 all_goals first
  | (simp only [Option.some.injEq, Prod.mk.injEq] at h; obtain ⟨rfl, rfl, rfl⟩ := h; apply FD)
  | cases h
theorem Mf {g : Nat} : (Pt g).Lok (bL (bQ zZ)) := by
 have hl : bL (bQ zZ) = [Ep] := by kernel_rfl
 rw [hl]
 refine kZ fun f h c hc hr => ?_
 rw [List.mem_singleton] at hc h
 subst hc; subst h
 exact QZ
theorem Ir (g : Nat) (s : ByteArray) : Ctr prog Ey [vS s] [] (Sq g s) := by
 refine ji mixed (N := 46) (fn := zZ) (c := bQ zZ) (ks := QX g) (ls := [Ig g]) (by kernel_rfl) (by kernel_rfl) (by kernel_rfl) (Kk g) Ae Mf (by kernel_rfl) (Q := Sn s g) (fun post hp => ?_) (fun R => by kernel_rfl)
 obtain ⟨⟨hs, hsome⟩, hp⟩ := hp
 have hp : post (.tup [dmA (jW g s).l, vI .i64 (jW g s).i, vI .i64 (jW g s).e], []) := hp
 obtain ⟨R, hR⟩ := Option.isSome_iff_exists.1 hsome
 rw [Nv hR] at hp
 have hR' : lG s g (blk s 0) 0 gF = some R := hR
 have eR := FJ hR'
 have b1 := vv s 0
 have b2 := vk s 0 (by omega)
 obtain ⟨k1, k2⟩ := zJ _ _ _ _ _ _ hR
 unfold Sn
 refine ⟨fun h => absurd (of_decide_eq_true h) (by omega), fun _ => ⟨aI _, ⟨⟨rfl, aK _, (mF _ _ _).2 rfl, (mF _ _ _).2 rfl, (mF _ _ _).2 rfl, trivial⟩, trivial⟩, ⟨hs, by omega, by omega⟩, ⟨aK _, aK _, aK _, trivial⟩,
  ⟨dN _, ⟨rfl, rfl, rfl, fun k hk => absurd hk (by simp)⟩, trivial⟩, ⟨Nat.le_refl _, ⟨hs, by omega, b2⟩, ⟨by omega, by omega⟩, by simp [gF], by rw [hR']; rfl⟩, fun he => ⟨aI _, trivial, trivial, ?_⟩, fun he => ⟨trivial, ?_⟩⟩⟩
 · rw [eR] at he ⊢
   have he : R.e = 0 := by simpa using he
   refine uZ hp ?_
   rw [he, k1 he]
   exact aK _
 · rw [eR] at he ⊢
   have he : R.e ≠ 0 := by simpa using he
   refine uZ hp ?_
   rw [k2 he]
   simp only [RD, uF, x9, and_true]
   refine ⟨?_, aK _, aK _⟩
   unfold dmA
   rw [FP]
   simp only [bX]
   exact ⟨rfl, rfl⟩
theorem VG (g : Nat) : (Tc g).Ok prog := by
 intro al ol args obs out h
 unfold Tc at h
 simp only at h
 repeat' split at h
 all_goals first
  | (simp only [Option.some.injEq, Prod.mk.injEq] at h; obtain ⟨rfl, rfl, rfl⟩ := h; apply Ir)
  | cases h
end Rd
