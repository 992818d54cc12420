/- The reader's recursion. -/
import Derived.Test.YtkbdcpkbmfegdaaGreatDoorRdB
set_option linter.unusedSimpArgs false
set_option linter.unusedVariables false
open Rx Go
namespace Rd
theorem Uk : noF.Ok prog := by
 intro al ol args obs out h
 cases h
theorem O7 {g : Nat} (hD : (EM g).Ok prog) : ∀ x ∈ V8 g, x.2.2.Ok prog :=
 all_cons JO (all_cons yL (all_cons yL (all_cons yL (all_cons yL (all_cons hD (all_cons Uk (all_cons JO (all_cons hD (all_cons ZC all_nil)))))))))
theorem BA {s : ByteArray} {f g : Nat} {lv a c : Int} {r : PR} (h : f <= g) (hr : iO s f lv a c = some r) : aY s g lv a c = r := by
 unfold aY
 rw [ku h hr]; rfl
theorem Jm {s : ByteArray} {f : Nat} {lv a c : Int} {acc : List Dm} {r : PR} (hr : kW s f lv a c acc = some r) : kQ s f lv a c acc = r := by
 unfold kQ
 rw [hr]; rfl
theorem Jh {g : Nat} (hD : (EM g).Ok prog) (s : ByteArray) (lv : Int) (x : LX) : Sound (TQ g) (.loop IE) (jO ((LQ g).live.h.zip (NZ lv)) (RX s x)) ((SE s g lv x).map (OutC.st (LQ g).live)) := by
 refine sO mixed (ks := V8 g) (ls := [LQ g]) (c := IE) (nb := 1) (N := 153) (O7 hD) (gI (by kernel_rfl)) (LQ g).live (fun _ : LX => NZ lv) (fun x => RX s x) (fun x => SE s g lv x) (fun x => x.f)
  (Q := fun x => PS s g lv x.a x.c x.acc) (fun x post hp => ?_) (fun a Rn Re => by kernel_rfl) x
 obtain ⟨f, a, c, acc⟩ := x
 obtain ⟨⟨hf, hs, hc, ⟨hl1, hl2⟩, ha, hsome⟩, hp⟩ := hp
 have hp : post (.ret, [.ptr 1 0], [some (pOb s (kQ s f lv a c acc).a (kQ s f lv a c acc).c (kQ s f lv a c acc).e),
  some (.cells lq [vI .i64 4, vI .i64 0, vS noS, .nm 2]), some (.row lq 4 (kQ s f lv a c acc).d.l.length (dmL (kQ s f lv a c acc).d.l))]) := hp
 obtain ⟨R, hR⟩ := Option.isSome_iff_exists.1 hsome
 have eR := Jm hR
 simp only at hf hs hc ha hR
 have b1 := yD s a
 have b2 := yE s a hs.2.2
 have hb : okS s (blk s a) := ⟨hs.1, by have := hs.2.1; omega, b2⟩
 cases f with
 | zero => simp [kW] at hR
 | succ f =>
 have call : ¬ (blk s a < s.size /\ au s (blk s a) = 41) -> ∃ r, iO s f (lv + 1) (blk s a) c = some r /\ (if r.e ≠ 0 then R = ⟨.mk 4 0 noS acc, r.a, r.c, r.e⟩ else kW s f lv r.a r.c (acc ++ [r.d]) = some R) := fun h => by
  rw [kW, if_neg h] at hR
  split at hR
  · cases hR
  · rename_i r hr
    refine ⟨r, hr, ?_⟩
    split at hR
    · rename_i g; rw [if_pos g]; injection hR with hR; exact hR.symm
    · rename_i g; rw [if_neg g]; exact hR
 unfold PS
 simp only [lo, hi]
 have part : ¬ (blk s a < s.size /\ au s (blk s a) = 41) -> _ := fun h => call h
 refine ⟨aG _, aS _, hs, fun _ => ⟨fun hlt => ⟨⟨hb.2.1, of_decide_eq_true hlt⟩, fun h41 => ⟨⟨by have := hb.2.1; omega, by have := hs.1; omega⟩, ?_⟩, fun h41 => ?_⟩, fun hlt => ?_⟩, fun h => (by cases h)⟩
 · have hlt := of_decide_eq_true hlt
   have h41 : au s (blk s a) = 41 := by simpa using h41
   rw [kW, if_pos ⟨hlt, h41⟩] at hR
   injection hR with hR
   rw [eR, ← hR] at hp
   exact nA.mk hp (aG _) (aL _)
 all_goals
  obtain ⟨r, hr, hRr⟩ := call (by first | (rintro ⟨_, h⟩; simp [h] at h41; done) | (rintro ⟨h, _⟩; simp [h] at hlt; done))
  have er := BA (g := g) (by omega : f <= g) hr
  obtain ⟨k1, k2, k3, k4⟩ := (Bp s f).1 _ _ _ _ hr hb hc
  refine ⟨⟨by omega, by omega⟩, aG _, aS _, ⟨hb, hc, ⟨by omega, by omega⟩, by rw [ku (by omega : f <= g) hr]; rfl⟩, fun he => ?_, fun he => ⟨by have := hc.2; omega, ?_⟩⟩
  · rw [er] at he ⊢
    have he : r.e ≠ 0 := by simpa using he
    rw [if_pos he] at hRr
    rw [eR, hRr] at hp
    exact nA.mk hp (aG _) (aL _)
  · rw [er] at he ⊢
    have he : r.e = 0 := by simpa using he
    rw [if_neg (by simpa using he)] at hRr
    rw [eR] at hp
    refine ⟨⟨f, r.a, r.c, acc ++ [r.d]⟩, Nat.lt_succ_self f, aG _, ?_, ⟨by simp only; omega, k1, ⟨Int.le_trans hc.1 k3, k2 he⟩, ⟨hl1, hl2⟩, by have := k4 he; simp; omega, by simp only; rw [hRr]; rfl⟩, ?_⟩
    · rw [he]
      refine ⟨eu _, eu _, eu _, ⟨rfl, rfl, by simp, fun k hk j hj => Kc acc r.d k j hk hj⟩, trivial⟩
    · simp only
      have : post (.ret, [.ptr 1 0], [some (pOb s (kQ s f lv r.a r.c (acc ++ [r.d])).a (kQ s f lv r.a r.c (acc ++ [r.d])).c (kQ s f lv r.a r.c (acc ++ [r.d])).e),
        some (.cells lq [vI .i64 4, vI .i64 0, vS noS, .nm 2]), some (.row lq 4 (kQ s f lv r.a r.c (acc ++ [r.d])).d.l.length (dmL (kQ s f lv r.a r.c (acc ++ [r.d])).d.l))]) := by
        rw [Jm hRr]; exact hp
      exact this
end Rd
set_option linter.unusedSimpArgs false
set_option linter.unusedVariables false
open Rx Go
namespace Rd
theorem VH {g : Nat} (hD : (EM g).Ok prog) : MV (TQ g) (LQ g) IE := by
 intro svs obl args obs out h
 unfold LQ at h
 simp only at h
 repeat' split at h
 all_goals first
  | (simp only [Option.some.injEq, Prod.mk.injEq] at h; obtain ⟨rfl, rfl, rfl⟩ := h; apply Jh hD)
  | cases h
theorem Q5 {g : Nat} (hD : (EM g).Ok prog) : (TQ g).Lok (bT (bU vJ)) := by
 have hl : bT (bU vJ) = [IE] := by kernel_rfl
 rw [hl]
 refine lV fun f h c hc hr => ?_
 rw [List.mem_singleton] at hc h
 subst hc; subst h
 exact VH hD
theorem RJ (d : Dm) : leS (.agg [vI .i64 4, .ki .i64 0, vS ⟨#[]⟩, .dt (.arr 4 2 (lF 4 [Dt.cell (.int .i64 3), .cell (.int .i64 0), .cell (.string pE), .cell (.slice none 0 0), .cell (.int .i64 d.k), .cell (.int .i64 d.n), .cell (.string d.s), .arr 4 d.l.length (dmL d.l)]))]) (dmS (.mk 4 0 noS [.mk 3 0 pE [], d])) := by
 simp only [dmS, dmA, Dm.k, Dm.n, Dm.s, Dm.l, Ir, xB, Bh, and_true]
 refine ⟨aI _, (oo _ _ _).2 rfl, aI _, ?_⟩
 rw [JN, Sl]
 refine ⟨rfl, .inr ⟨rfl, fun k hk j hj => ?_⟩⟩
 rw [Bw hj (by simp; omega)]
 match k, hk with
 | 0, _ =>
   match j, hj with
   | 0, _ => simp [dmL, dmT, cZ]
   | 1, _ => simp [dmL, dmT, cZ]
   | 2, _ => simp [dmL, dmT, cZ]
   | 3, _ => simp [dmL, dmT, cZ, isNil]
 | 1, _ =>
   have e : dmL [.mk 3 0 pE [], d] 1 j = dmT d j := by simp [dmL]
   rw [e, RY d j hj]
   match j, hj with
   | 0, _ => exact dK _
   | 1, _ => exact dK _
   | 2, _ => exact dK _
   | 3, _ => exact dK _
theorem ED {g : Nat} (hD : (EM g).Ok prog) (s : ByteArray) (lv a c : Int) : Ctr prog BH [.ptr 0 0, vI .i64 lv] [pOb s a c 0] (HZ s (g + 1) lv a c) := by
 refine jH mixed (N := 153) (fn := vJ) (c := bU vJ) (ks := V8 g) (ls := [LQ g]) (by kernel_rfl) (by kernel_rfl) (by kernel_rfl) (O7 hD) ⟨true, none⟩ (Q5 hD) (by kernel_rfl) (Q := Uy s g lv a c) (fun post hp => ?_) (fun R => by kernel_rfl)
 obtain ⟨⟨hs, hc, hl, hsome⟩, hp⟩ := hp
 have hp : post (dmS (aY s (g + 1) lv a c).d, [some (pOb s (aY s (g + 1) lv a c).a (aY s (g + 1) lv a c).c (aY s (g + 1) lv a c).e)]) := hp
 obtain ⟨R, hR⟩ := Option.isSome_iff_exists.1 hsome
 rw [BA (Nat.le_refl _) hR] at hp
 have b1 := yD s a
 have b2 := yE s a hs.2.2
 have hb : okS s (blk s a) := ⟨hs.1, by have := hs.2.1; omega, b2⟩
 have hcl := hc.1
 have hcu := hc.2
 have hl1 := hl.1
 have hl2 := hl.2
 have hs1 := hs.1
 have hb0 := hb.2.1
 have leaf : ∀ {v : SV} {d : Dm} {a c e : Int}, R = ⟨d, a, c, e⟩ -> leS v (dmS d) -> Gives post v [some (pOb s a c e)] := fun h hv => by
  rw [h] at hp; exact l8 hp hv (aL _)
 rw [iO] at hR
 unfold Uy
 simp only [lo, hi]
 refine ⟨aG _, aS _, hs, fun h => (by cases h), fun _ => ⟨fun h => ⟨aG _, aS _, trivial, ?_⟩, fun h1 => ⟨⟨by omega, by omega⟩, fun h => ⟨aG _, aS _, trivial, ?_⟩, fun h2 =>
  ⟨fun h => ⟨aG _, aS _, trivial, ?_⟩, fun h3 => ?_⟩⟩⟩⟩
 · have h : blk s a = s.size := by simpa using h
   rw [if_pos h] at hR
   injection hR with hR
   exact leaf hR.symm (aI _)
 · have h1 : ¬ blk s a = s.size := by simpa using h1
   rw [if_neg h1, if_pos (of_decide_eq_true h)] at hR
   injection hR with hR
   exact leaf hR.symm (aI _)
 · have h1 : ¬ blk s a = s.size := by simpa using h1
   rw [if_neg h1, if_neg (of_decide_eq_false h2), if_pos (of_decide_eq_true h)] at hR
   injection hR with hR
   exact leaf hR.symm (aI _)
 have h1 : ¬ blk s a = s.size := by simpa using h1
 have h2 := of_decide_eq_false h2
 have h3 := of_decide_eq_false h3
 rw [if_neg h1, if_neg h2, if_neg h3] at hR
 have hb1 : okS s (blk s a + 1) := ⟨hs1, by omega, by omega⟩
 have hc1 : okC (c + 1) := ⟨by omega, by omega⟩
 refine ⟨⟨hb0, by omega⟩, fun h => ⟨aG _, aS _, trivial, ?_⟩, fun h41 => ?_⟩
 · have h : au s (blk s a) = 41 := by simpa using h
   rw [if_pos h] at hR
   injection hR with hR
   exact leaf hR.symm (aI _)
 have h41 : ¬ au s (blk s a) = 41 := by simpa using h41
 rw [if_neg h41] at hR
 refine ⟨fun h => ?_, fun h39 => ?_⟩
 · have h : au s (blk s a) = 39 := by simpa using h
   rw [if_pos h] at hR
   obtain ⟨r, hr, hRr⟩ := Option.map_eq_some_iff.1 hR
   refine ⟨⟨by omega, by omega⟩, ⟨by omega, by omega⟩, aG _, aS _, ⟨hb1, hc1, ⟨by omega, by omega⟩, by rw [hr]; rfl⟩, trivial, ?_⟩
   rw [BA (Nat.le_refl _) hr]
   exact leaf hRr.symm (RJ r.d)
 have h39 : ¬ au s (blk s a) = 39 := by simpa using h39
 rw [if_neg h39] at hR
 refine ⟨fun h => ?_, fun h40 => ?_⟩
 · have h : au s (blk s a) = 40 := by simpa using h
   rw [if_pos h] at hR
   obtain ⟨k1, k2, k3, k4⟩ := (Bp s g).2 _ _ _ _ _ hR hb1 hc1
   refine ⟨⟨by omega, by omega⟩, ⟨aI _, aI _, aI _, aI _, trivial⟩, ?_, ⟨Nat.le_refl _, hb1, hc1, ⟨by omega, by omega⟩, by simp [gU]; omega, by
    show (kW s g lv (blk s a + 1) (c + 1) []).isSome = true
    rw [hR]; rfl⟩, trivial, ?_⟩
   · exact ⟨eu _, eu _, ⟨rfl, aI _, (oo _ _ _).2 rfl, aI _, aI _, trivial⟩, ⟨rfl, rfl, rfl, fun k hk => absurd hk (by simp)⟩, trivial⟩
   · have e : kQ s g lv (blk s a + 1) (c + 1) gU = R := Jm hR
     rw [e]
     refine leaf (d := .mk 4 0 noS R.d.l) (a := R.a) (c := R.c) (e := R.e) (by rw [← k4]) (aI _)
 · have h40 : ¬ au s (blk s a) = 40 := by simpa using h40
   rw [if_neg h40] at hR
   injection hR with hR
   exact ⟨aG _, aS _, ⟨hb, hb0, Int.le_refl _⟩, trivial, leaf hR.symm (aI _)⟩
theorem Ov : ∀ f : Nat, (EM f).Ok prog := by
 have key : ∀ f : Nat, (∀ (s : ByteArray) (lv a c : Int), Ctr prog BH [.ptr 0 0, vI .i64 lv] [pOb s a c 0] (HZ s f lv a c)) -> (EM f).Ok prog := by
  intro f hf al ol args obs out h
  unfold EM at h
  simp only at h
  repeat' split at h
  all_goals first
   | (simp only [Option.some.injEq, Prod.mk.injEq] at h; obtain ⟨rfl, rfl, rfl⟩ := h; apply hf)
   | cases h
 intro f
 induction f with
 | zero => exact key 0 fun s lv a c => vO fun h => by obtain ⟨_, _, _, h⟩ := h; simp [iO] at h
 | succ f ih => exact key (f + 1) fun s lv a c => ED ih s lv a c
theorem ZV (s : ByteArray) (f : Nat) (lv a c : Int) : Ctr prog BH [.ptr 0 0, vI .i64 lv] [pOb s a c 0] (HZ s f lv a c) := by
 cases f with
 | zero => exact vO fun h => by obtain ⟨_, _, _, h⟩ := h; simp [iO] at h
 | succ f => exact ED (Ov f) s lv a c
end Rd
set_option linter.unusedSimpArgs false
set_option linter.unusedVariables false
open Rx Go
namespace Rd
structure RR where
 l : List Dm
 i : Int
 e : Int
instance : Inhabited RR := ⟨⟨[], 0, 0⟩⟩
def l7 (s : ByteArray) : Nat -> Int -> Int -> List Dm -> Option RR
 | 0, _, _, _ => none
 | f + 1, a, c, acc =>
   if a < s.size then match iO s f 1 a c with
     | none => none
     | some r => if r.e ≠ 0 then some ⟨[], r.a, r.e⟩ else l7 s f (blk s r.a) r.c (acc ++ [r.d])
   else some ⟨acc, 0, 0⟩
def xg (s : ByteArray) (f : Nat) (a c : Int) (acc : List Dm) : RR := (l7 s f a c acc).getD default
def vX (f : Nat) (s : ByteArray) : Option RR := l7 s f (blk s 0) 0 []
def kP (f : Nat) (s : ByteArray) : RR := (vX f s).getD default
def Xt (f : Nat) (s : ByteArray) : T Out := .need (s.size <= 3000 /\ (vX f s).isSome = true) (.ret (.tup [dmA (kP f s).l, vI .i64 (kP f s).i, vI .i64 (kP f s).e], []))
def XE (f : Nat) : FC := ⟨Jg, false, false, fun al ol => match al, ol with
 | [x], [] => match rdS x with
   | some s => some ([vS s], [], Xt f s)
   | none => none
 | _, _ => none⟩
def MJ (s : ByteArray) : List SV := [vS s, .ptr 0 0, .nm 1]
def SY (s : ByteArray) (x : LX) : List (Option Ob) := [some (pOb s x.a x.c 0), some (.row lq 4 x.acc.length (dmL x.acc))]
def Xk (s : ByteArray) (r : RR) : T OutC := .ite (r.e == 0) (.ret (.exit 0, [.nm 0], [some (.row lq 4 r.l.length (dmL r.l))])) (.ret (.ret, [.dt (.cell (.slice none 0 0)), vI .i64 r.i, vI .i64 r.e], []))
def Ta (s : ByteArray) (g : Nat) (x : LX) : T OutC := .need (x.f <= g /\ okS s x.a /\ okC x.c /\ x.acc.length <= x.c /\ (l7 s x.f x.a x.c x.acc).isSome = true) (Xk s (xg s x.f x.a x.c x.acc))
def KW (g : Nat) : LF := ⟨6, ⟨[0, 5, 6], [6], [2, 3, 4]⟩, fun svs obl => match svs, obl with
 | [_, .ptr 0 0, .nm 1], some (.cells _ [s, a, c, _]) :: _ => match rdS s, rdI a, rdI c with
   | some s, some a, some c => some (MJ s, SY s ⟨g, a, c, gU⟩, Ta s g ⟨g, a, c, gU⟩)
   | _, _, _ => none
 | _, _ => none⟩
def WB (g : Nat) : List (Nat × Nat × FC) := [(4, 0, noF), (5, 1, bkF), (8, 1, EM g), (7, 1, bkF), (12, 1, clF)]
noncomputable def UE (g : Nat) : Env := fnE prog 46 0 (WB g) [KW g]
noncomputable def JV : Code := (jL 6 (bU Cy)).getD .skip
def OI (s : ByteArray) (g : Nat) (a c : Int) (acc : List Dm) (Rn : List SV -> List (Option Ob) -> Prop) (Re : Ex -> List SV -> List (Option Ob) -> Prop) : Prop :=
(((decide (a < (↑s.size : Int)) = true) ->
 ((Rx.leL ([SV.ptr 0 0, SV.dt (Dt.cell (.int .i64 (1 : Int)))]) ([SV.ptr 0 0, SV.dt (Dt.cell (.int .i64 (1 : Int)))])) /\
  ((Rx.bn ([Ob.cells 133 [SV.dt (Dt.cell (.string s)), SV.dt (Dt.cell (.int .i64 a)), SV.dt (Dt.cell (.int .i64 c)), SV.dt (Dt.cell (.int .i64 (0 : Int)))]]) ([Ob.cells 133 [SV.dt (Dt.cell (.string s)), SV.dt (Dt.cell (.int .i64 a)), SV.dt (Dt.cell (.int .i64 c)), SV.dt (Dt.cell (.int .i64 (0 : Int)))]])) /\
   (((Rd.okS s a) /\
     ((Rd.okC c) /\
      ((Rd.okL (1 : Int)) /\
       ((Rd.iO s g (1 : Int) a c).isSome = true)))) /\
    (((((Rd.aY s g (1 : Int) a c).e != (0 : Int)) = true) ->
      Re (Rx.Ex.ret) ([SV.dt (Dt.cell (.slice Option.none (0 : Nat) (0 : Nat))), SV.dt (Dt.cell (.int .i64 (Rd.aY s g (1 : Int) a c).a)), SV.dt (Dt.cell (.int .i64 (Rd.aY s g (1 : Int) a c).e))]) ([])) /\
     ((((Rd.aY s g (1 : Int) a c).e != (0 : Int)) = false) ->
      (((acc.length + (1 : Nat)) * (56 : Nat) <= (140737488355328 : Nat)) /\
       ((Rx.leL ([SV.ptr 0 0]) ([SV.ptr 0 0])) /\
        ((Rx.bn ([Ob.cells 133 [SV.dt (Dt.cell (.string s)), SV.dt (Dt.cell (.int .i64 (Rd.aY s g (1 : Int) a c).a)), SV.dt (Dt.cell (.int .i64 (Rd.aY s g (1 : Int) a c).c)), SV.dt (Dt.cell (.int .i64 (Rd.aY s g (1 : Int) a c).e))]]) ([Ob.cells 133 [SV.dt (Dt.cell (.string s)), SV.dt (Dt.cell (.int .i64 (Rd.aY s g (1 : Int) a c).a)), SV.dt (Dt.cell (.int .i64 (Rd.aY s g (1 : Int) a c).c)), SV.dt (Dt.cell (.int .i64 (Rd.aY s g (1 : Int) a c).e))]])) /\
         ((Rd.okS s (Rd.aY s g (1 : Int) a c).a) /\
          Rn ([SV.dt (Dt.cell (.string s)), SV.ptr 0 0, SV.nm 1]) ([some (Ob.cells 133 [SV.dt (Dt.cell (.string s)), SV.dt (Dt.cell (.int .i64 (Rd.blk s (Rd.aY s g (1 : Int) a c).a))), SV.dt (Dt.cell (.int .i64 (Rd.aY s g (1 : Int) a c).c)), SV.dt (Dt.cell (.int .i64 (Rd.aY s g (1 : Int) a c).e))]), some (Ob.row 25 4 (acc.length + (1 : Nat)) (Rx.fH acc.length (Rd.dmL acc) (Rx.lF (4 : Nat) [Rx.Dt.cell (.int .i64 (Rd.aY s g (1 : Int) a c).d.k), Rx.Dt.cell (.int .i64 (Rd.aY s g (1 : Int) a c).d.n), Rx.Dt.cell (.string (Rd.aY s g (1 : Int) a c).d.s), Rx.Dt.arr (4 : Nat) (Rd.aY s g (1 : Int) a c).d.l.length (Rd.dmL (Rd.aY s g (1 : Int) a c).d.l)])))]))))))))))) /\
((decide (a < (↑s.size : Int)) = false) ->
 Re (Rx.Ex.exit (0 : Nat)) ([SV.nm 0]) ([some (Ob.row 25 4 (acc.length) (Rd.dmL acc))])))
def XG (s : ByteArray) (g : Nat) (R : SV -> List (Option Ob) -> Prop) : Prop :=
(((decide ((↑s.size : Int) > (3000 : Int)) = true) ->
 (True /\
  R (SV.tup [SV.dt (Dt.cell (.slice Option.none (0 : Nat) (0 : Nat))), SV.dt (Dt.cell (.int .i64 (0 : Int))), SV.dt (Dt.cell (.int .i64 (1 : Int)))]) ([]))) /\
((decide ((↑s.size : Int) > (3000 : Int)) = false) ->
 ((Rx.leL ([SV.ptr 0 0]) ([SV.ptr 0 0])) /\
  ((Rx.bn ([Ob.cells 133 [SV.dt (Dt.cell (.string s)), SV.ki .i64 ((0 : Int)), SV.ki .i64 ((0 : Int)), SV.ki .i64 ((0 : Int))]]) ([Ob.cells 133 [SV.dt (Dt.cell (.string s)), SV.dt (Dt.cell (.int .i64 (0 : Int))), SV.dt (Dt.cell (.int .i64 (0 : Int))), SV.dt (Dt.cell (.int .i64 (0 : Int)))]])) /\
   ((Rd.okS s (0 : Int)) /\
    (((Rx.leS (SV.dt (Dt.cell (.string s))) (SV.dt (Dt.cell (.string s)))) /\
      ((Rx.leS (SV.ptr 0 0) (SV.ptr 0 0)) /\
       ((Rx.leS (SV.nm 1) (SV.nm 1)) /\
        True))) /\
     ((Rx.leOO ([some (Ob.cells 133 [SV.dt (Dt.cell (.string s)), SV.dt (Dt.cell (.int .i64 (Rd.blk s (0 : Int)))), SV.dt (Dt.cell (.int .i64 (0 : Int))), SV.dt (Dt.cell (.int .i64 (0 : Int)))]), some (Ob.row 25 4 ((0 : Nat)) (fun x x_1 => Rx.aV))]) ([some (Ob.cells 133 [SV.dt (Dt.cell (.string s)), SV.dt (Dt.cell (.int .i64 (Rd.blk s (0 : Int)))), SV.dt (Dt.cell (.int .i64 (0 : Int))), SV.dt (Dt.cell (.int .i64 (0 : Int)))]), some (Ob.row 25 4 (Rd.gU.length) (Rd.dmL Rd.gU))])) /\
      (((g <= g) /\
        ((Rd.okS s (Rd.blk s (0 : Int))) /\
         ((Rd.okC (0 : Int)) /\
          (((↑Rd.gU.length : Int) <= (0 : Int)) /\
           ((Rd.l7 s g (Rd.blk s (0 : Int)) (0 : Int) Rd.gU).isSome = true))))) /\
       (((((Rd.xg s g (Rd.blk s (0 : Int)) (0 : Int) Rd.gU).e == (0 : Int)) = true) ->
         ((Rx.leL ([SV.dt (Dt.arr ((4 : Nat)) ((Rd.xg s g (Rd.blk s (0 : Int)) (0 : Int) Rd.gU).l.length) (Rd.dmL (Rd.xg s g (Rd.blk s (0 : Int)) (0 : Int) Rd.gU).l))]) ([SV.dt (Dt.arr ((4 : Nat)) ((Rd.xg s g (Rd.blk s (0 : Int)) (0 : Int) Rd.gU).l.length) (Rd.dmL (Rd.xg s g (Rd.blk s (0 : Int)) (0 : Int) Rd.gU).l))])) /\
          ((Rx.bn ([]) ([])) /\
           (True /\
            R (SV.tup [SV.dt (Dt.arr ((4 : Nat)) ((Rd.xg s g (Rd.blk s (0 : Int)) (0 : Int) Rd.gU).l.length) (Rd.dmL (Rd.xg s g (Rd.blk s (0 : Int)) (0 : Int) Rd.gU).l)), SV.dt (Dt.cell (.int .i64 (0 : Int))), SV.dt (Dt.cell (.int .i64 (0 : Int)))]) ([]))))) /\
        ((((Rd.xg s g (Rd.blk s (0 : Int)) (0 : Int) Rd.gU).e == (0 : Int)) = false) ->
         (True /\
          R (SV.tup [SV.dt (Dt.cell (.slice Option.none (0 : Nat) (0 : Nat))), SV.dt (Dt.cell (.int .i64 (Rd.xg s g (Rd.blk s (0 : Int)) (0 : Int) Rd.gU).i)), SV.dt (Dt.cell (.int .i64 (Rd.xg s g (Rd.blk s (0 : Int)) (0 : Int) Rd.gU).e))]) ([]))))))))))))
theorem Df (s : ByteArray) : ∀ (f : Nat) (a c : Int) (acc : List Dm) (r : RR), l7 s f a c acc = some r -> (r.e = 0 -> r.i = 0) /\ (r.e ≠ 0 -> r.l = [])
 | 0, _, _, _, _, h => by simp [l7] at h
 | f + 1, a, c, acc, r, h => by
   rw [l7] at h
   split at h
   · split at h
     · cases h
     · rename_i q _
       split at h
       · rename_i g; injection h with h; subst h; exact ⟨fun h => absurd h g, fun _ => rfl⟩
       · exact Df s f _ _ _ _ h
   · injection h with h; subst h; exact ⟨fun _ => rfl, fun h => absurd rfl h⟩
theorem I4 {s : ByteArray} {f : Nat} {a c : Int} {acc : List Dm} {r : RR} (hr : l7 s f a c acc = some r) : xg s f a c acc = r := by
 unfold xg
 rw [hr]; rfl
theorem SG {f : Nat} {s : ByteArray} {r : RR} (hr : vX f s = some r) : kP f s = r := by
 unfold kP
 rw [hr]; rfl
theorem PU (g : Nat) : ∀ x ∈ WB g, x.2.2.Ok prog := all_cons Uk (all_cons JO (all_cons (Ov g) (all_cons JO (all_cons XZ all_nil))))
theorem JW {g : Nat} (s : ByteArray) (x : LX) : Sound (UE g) (.loop JV) (jO ((KW g).live.h.zip (MJ s)) (SY s x)) ((Ta s g x).map (OutC.st (KW g).live)) := by
 refine sO mixed (ks := WB g) (ls := [KW g]) (c := JV) (nb := 0) (N := 46) (PU g) (gI (by kernel_rfl)) (KW g).live (fun _ : LX => MJ s) (fun x => SY s x) (fun x => Ta s g x) (fun x => x.f)
  (Q := fun x => OI s g x.a x.c x.acc) (fun x post hp => ?_) (fun a Rn Re => by kernel_rfl) x
 obtain ⟨f, a, c, acc⟩ := x
 obtain ⟨⟨hf, hs, hc, ha, hsome⟩, hp0⟩ := hp
 obtain ⟨R, hR⟩ := Option.isSome_iff_exists.1 hsome
 have hp : (Xk s (xg s f a c acc)).holds post := hp0
 clear hp0
 rw [I4 hR] at hp
 simp only at hf hs hc ha hR
 have hcl := hc.1
 have hcu := hc.2
 cases f with
 | zero => simp [l7] at hR
 | succ f =>
 rw [l7] at hR
 unfold OI
 refine ⟨fun hlt => ?_, fun hlt => ?_⟩
 · rw [if_pos (of_decide_eq_true hlt)] at hR
   split at hR
   · cases hR
   · rename_i r hr
     have er := BA (g := g) (by omega : f <= g) hr
     obtain ⟨k1, k2, k3, k4⟩ := (Bp s f).1 _ _ _ _ hr hs hc
     refine ⟨aG _, aS _, ⟨hs, hc, ⟨by omega, by omega⟩, by rw [ku (by omega : f <= g) hr]; rfl⟩, fun he => ?_, fun he => ⟨by show (acc.length + 1) * 56 <= 140737488355328; omega, aG _, aS _, by rw [er]; exact k1, ?_⟩⟩
     · rw [er] at he ⊢
       have he : r.e ≠ 0 := by simpa using he
       rw [if_pos he] at hR
       injection hR with hR
       rw [← hR] at hp
       exact nA.mk (hp.2 (by simpa using he)) (aG _) (aL _)
     · rw [er] at he ⊢
       have he : r.e = 0 := by simpa using he
       rw [if_neg (by simpa using he)] at hR
       have c1 := yD s r.a
       have c2 := yE s r.a k1.2.2
       refine ⟨⟨f, blk s r.a, r.c, acc ++ [r.d]⟩, Nat.lt_succ_self f, aG _, ?_, ⟨by simp only; omega, ⟨k1.1, by have := k1.2.1; simp only; omega, c2⟩, ⟨Int.le_trans hcl k3, k2 he⟩, by have := k4 he; simp; omega, by simp only; rw [hR]; rfl⟩, ?_⟩
       · rw [he]
         exact ⟨eu _, ⟨rfl, rfl, by simp, fun k hk j hj => Kc acc r.d k j hk hj⟩, trivial⟩
       · simp only
         rw [I4 hR]; exact hp
 · rw [if_neg (of_decide_eq_false hlt)] at hR
   injection hR with hR
   rw [← hR] at hp
   exact nA.mk (hp.1 rfl) (aG _) (aL _)
theorem WC {g : Nat} : MV (UE g) (KW g) JV := by
 intro svs obl args obs out h
 unfold KW at h
 simp only at h
 repeat' split at h
 all_goals first
  | (simp only [Option.some.injEq, Prod.mk.injEq] at h; obtain ⟨rfl, rfl, rfl⟩ := h; apply JW)
  | cases h
theorem QE {g : Nat} : (UE g).Lok (bT (bU Cy)) := by
 have hl : bT (bU Cy) = [JV] := by kernel_rfl
 rw [hl]
 refine lV fun f h c hc hr => ?_
 rw [List.mem_singleton] at hc h
 subst hc; subst h
 exact WC
theorem LZ (g : Nat) (s : ByteArray) : Ctr prog Jg [vS s] [] (Xt g s) := by
 refine jH mixed (N := 46) (fn := Cy) (c := bU Cy) (ks := WB g) (ls := [KW g]) (by kernel_rfl) (by kernel_rfl) (by kernel_rfl) (PU g) Fg QE (by kernel_rfl) (Q := XG s g) (fun post hp => ?_) (fun R => by kernel_rfl)
 obtain ⟨⟨hs, hsome⟩, hp⟩ := hp
 have hp : post (.tup [dmA (kP g s).l, vI .i64 (kP g s).i, vI .i64 (kP g s).e], []) := hp
 obtain ⟨R, hR⟩ := Option.isSome_iff_exists.1 hsome
 rw [SG hR] at hp
 have hR' : l7 s g (blk s 0) 0 gU = some R := hR
 have eR := I4 hR'
 have b1 := yD s 0
 have b2 := yE s 0 (by omega)
 obtain ⟨k1, k2⟩ := Df _ _ _ _ _ _ hR
 unfold XG
 refine ⟨fun h => absurd (of_decide_eq_true h) (by omega), fun _ => ⟨aG _, ⟨⟨rfl, aI _, (oo _ _ _).2 rfl, (oo _ _ _).2 rfl, (oo _ _ _).2 rfl, trivial⟩, trivial⟩, ⟨hs, by omega, by omega⟩, ⟨aI _, aI _, aI _, trivial⟩,
  ⟨eu _, ⟨rfl, rfl, rfl, fun k hk => absurd hk (by simp)⟩, trivial⟩, ⟨Nat.le_refl _, ⟨hs, by omega, b2⟩, ⟨by omega, by omega⟩, by simp [gU], by rw [hR']; rfl⟩, fun he => ⟨aG _, trivial, trivial, ?_⟩, fun he => ⟨trivial, ?_⟩⟩⟩
 · rw [eR] at he ⊢
   have he : R.e = 0 := by simpa using he
   refine yV hp ?_
   rw [he, k1 he]
   exact aI _
 · rw [eR] at he ⊢
   have he : R.e ≠ 0 := by simpa using he
   refine yV hp ?_
   rw [k2 he]
   simp only [Wq, xB, Bh, and_true]
   refine ⟨?_, aI _, aI _⟩
   unfold dmA
   rw [JN]
   simp only [cZ]
   exact ⟨rfl, rfl⟩
theorem aaZ (g : Nat) : (XE g).Ok prog := by
 intro al ol args obs out h
 unfold XE at h
 simp only at h
 repeat' split at h
 all_goals first
  | (simp only [Option.some.injEq, Prod.mk.injEq] at h; obtain ⟨rfl, rfl, rfl⟩ := h; apply LZ)
  | cases h
end Rd
