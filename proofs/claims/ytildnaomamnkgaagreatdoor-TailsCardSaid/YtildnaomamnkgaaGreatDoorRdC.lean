/- The reader's recursion. -/
import Derived.Test.YtildnaomamnkgaaGreatDoorRdB
set_option linter.unusedSimpArgs false
set_option linter.unusedVariables false
open Rx Go
namespace Rd
theorem RH : noF.Ok prog := by
 intro al ol args obs out h
 cases h
theorem LW {g : Nat} (hD : (AX g).Ok prog) : ∀ x ∈ TM g, x.2.2.Ok prog :=
 all_cons Gu (all_cons vH (all_cons vH (all_cons vH (all_cons vH (all_cons hD (all_cons RH (all_cons Gu (all_cons hD (all_cons Wx all_nil)))))))))
theorem yE {s : ByteArray} {f g : Nat} {lv a c : Int} {r : PR} (h : f <= g) (hr : iJ s f lv a c = some r) : aW s g lv a c = r := by
 unfold aW
 rw [jV h hr]; rfl
theorem EK {s : ByteArray} {f : Nat} {lv a c : Int} {acc : List Dm} {r : PR} (hr : kL s f lv a c acc = some r) : kM s f lv a c acc = r := by
 unfold kM
 rw [hr]; rfl
theorem Gc {g : Nat} (hD : (AX g).Ok prog) (s : ByteArray) (lv : Int) (x : LX) : Sound (Qe g) (.loop EY) (jJ ((IG g).live.h.zip (KI lv)) (RQ s x)) ((Pq s g lv x).map (OutC.st (IG g).live)) := by
 refine rD mixed (ks := TM g) (ls := [IG g]) (c := EY) (nb := 1) (N := 153) (LW hD) (gu (by kernel_rfl)) (IG g).live (fun _ : LX => KI lv) (fun x => RQ s x) (fun x => Pq s g lv x) (fun x => x.f)
  (Q := fun x => LJ s g lv x.a x.c x.acc) (fun x post hp => ?_) (fun a Rn Re => by kernel_rfl) x
 obtain ⟨f, a, c, acc⟩ := x
 obtain ⟨⟨hf, hs, hc, ⟨hl1, hl2⟩, ha, hsome⟩, hp⟩ := hp
 have hp : post (.ret, [.ptr 1 0], [some (pOb s (kM s f lv a c acc).a (kM s f lv a c acc).c (kM s f lv a c acc).e),
  some (.cells kN [vI .i64 4, vI .i64 0, vS noS, .nm 2]), some (.row kN 4 (kM s f lv a c acc).d.l.length (dmL (kM s f lv a c acc).d.l))]) := hp
 obtain ⟨R, hR⟩ := Option.isSome_iff_exists.1 hsome
 have eR := EK hR
 simp only at hf hs hc ha hR
 have b1 := wB s a
 have b2 := vR s a hs.2.2
 have hb : okS s (blk s a) := ⟨hs.1, by have := hs.2.1; omega, b2⟩
 cases f with
 | zero => simp [kL] at hR
 | succ f =>
 have call : ¬ (blk s a < s.size /\ ak s (blk s a) = 41) -> ∃ r, iJ s f (lv + 1) (blk s a) c = some r /\ (if r.e ≠ 0 then R = ⟨.mk 4 0 noS acc, r.a, r.c, r.e⟩ else kL s f lv r.a r.c (acc ++ [r.d]) = some R) := fun h => by
  rw [kL, if_neg h] at hR
  split at hR
  · cases hR
  · rename_i r hr
    refine ⟨r, hr, ?_⟩
    split at hR
    · rename_i g; rw [if_pos g]; injection hR with hR; exact hR.symm
    · rename_i g; rw [if_neg g]; exact hR
 unfold LJ
 simp only [lo, hi]
 have part : ¬ (blk s a < s.size /\ ak s (blk s a) = 41) -> _ := fun h => call h
 refine ⟨aF _, aQ _, hs, fun _ => ⟨fun hlt => ⟨⟨hb.2.1, of_decide_eq_true hlt⟩, fun h41 => ⟨⟨by have := hb.2.1; omega, by have := hs.1; omega⟩, ?_⟩, fun h41 => ?_⟩, fun hlt => ?_⟩, fun h => (by cases h)⟩
 · have hlt := of_decide_eq_true hlt
   have h41 : ak s (blk s a) = 41 := by simpa using h41
   rw [kL, if_pos ⟨hlt, h41⟩] at hR
   injection hR with hR
   rw [eR, ← hR] at hp
   exact mq.mk hp (aF _) (aJ _)
 all_goals
  obtain ⟨r, hr, hRr⟩ := call (by first | (rintro ⟨_, h⟩; simp [h] at h41; done) | (rintro ⟨h, _⟩; simp [h] at hlt; done))
  have er := yE (g := g) (by omega : f <= g) hr
  obtain ⟨k1, k2, k3, k4⟩ := (yF s f).1 _ _ _ _ hr hb hc
  refine ⟨⟨by omega, by omega⟩, aF _, aQ _, ⟨hb, hc, ⟨by omega, by omega⟩, by rw [jV (by omega : f <= g) hr]; rfl⟩, fun he => ?_, fun he => ⟨by have := hc.2; omega, ?_⟩⟩
  · rw [er] at he ⊢
    have he : r.e ≠ 0 := by simpa using he
    rw [if_pos he] at hRr
    rw [eR, hRr] at hp
    exact mq.mk hp (aF _) (aJ _)
  · rw [er] at he ⊢
    have he : r.e = 0 := by simpa using he
    rw [if_neg (by simpa using he)] at hRr
    rw [eR] at hp
    refine ⟨⟨f, r.a, r.c, acc ++ [r.d]⟩, Nat.lt_succ_self f, aF _, ?_, ⟨by simp only; omega, k1, ⟨Int.le_trans hc.1 k3, k2 he⟩, ⟨hl1, hl2⟩, by have := k4 he; simp; omega, by simp only; rw [hRr]; rfl⟩, ?_⟩
    · rw [he]
      refine ⟨dQ _, dQ _, dQ _, ⟨rfl, rfl, by simp, fun k hk j hj => Hy acc r.d k j hk hj⟩, trivial⟩
    · simp only
      have : post (.ret, [.ptr 1 0], [some (pOb s (kM s f lv r.a r.c (acc ++ [r.d])).a (kM s f lv r.a r.c (acc ++ [r.d])).c (kM s f lv r.a r.c (acc ++ [r.d])).e),
        some (.cells kN [vI .i64 4, vI .i64 0, vS noS, .nm 2]), some (.row kN 4 (kM s f lv r.a r.c (acc ++ [r.d])).d.l.length (dmL (kM s f lv r.a r.c (acc ++ [r.d])).d.l))]) := by
        rw [EK hRr]; exact hp
      exact this
end Rd
set_option linter.unusedSimpArgs false
set_option linter.unusedVariables false
open Rx Go
namespace Rd
theorem TN {g : Nat} (hD : (AX g).Ok prog) : KG (Qe g) (IG g) EY := by
 intro svs obl args obs out h
 unfold IG at h
 simp only at h
 repeat' split at h
 all_goals first
  | (simp only [Option.some.injEq, Prod.mk.injEq] at h; obtain ⟨rfl, rfl, rfl⟩ := h; apply Gc hD)
  | cases h
theorem Ox {g : Nat} (hD : (AX g).Ok prog) : (Qe g).Lok (bK (bL uy)) := by
 have hl : bK (bL uy) = [EY] := by kernel_rfl
 rw [hl]
 refine lC fun f h c hc hr => ?_
 rw [List.mem_singleton] at hc h
 subst hc; subst h
 exact TN hD
theorem QU (d : Dm) : leS (.agg [vI .i64 4, .ki .i64 0, vS ⟨#[]⟩, .dt (.arr 4 2 (l6 4 [Dt.cell (.int .i64 3), .cell (.int .i64 0), .cell (.string nY), .cell (.slice none 0 0), .cell (.int .i64 d.k), .cell (.int .i64 d.n), .cell (.string d.s), .arr 4 d.l.length (dmL d.l)]))]) (dmS (.mk 4 0 noS [.mk 3 0 nY [], d])) := by
 simp only [dmS, dmA, Dm.k, Dm.n, Dm.s, Dm.l, FD, uO, yA, and_true]
 refine ⟨aH _, (nG _ _ _).2 rfl, aH _, ?_⟩
 rw [Er, Qg]
 refine ⟨rfl, .inr ⟨rfl, fun k hk j hj => ?_⟩⟩
 rw [yt hj (by simp; omega)]
 match k, hk with
 | 0, _ =>
   match j, hj with
   | 0, _ => simp [dmL, dmT, bV]
   | 1, _ => simp [dmL, dmT, bV]
   | 2, _ => simp [dmL, dmT, bV]
   | 3, _ => simp [dmL, dmT, bV, isNil]
 | 1, _ =>
   have e : dmL [.mk 3 0 nY [], d] 1 j = dmT d j := by simp [dmL]
   rw [e, Ry d j hj]
   match j, hj with
   | 0, _ => exact dB _
   | 1, _ => exact dB _
   | 2, _ => exact dB _
   | 3, _ => exact dB _
theorem BD {g : Nat} (hD : (AX g).Ok prog) (s : ByteArray) (lv a c : Int) : Ctr prog yO [.ptr 0 0, vI .i64 lv] [pOb s a c 0] (EP s (g + 1) lv a c) := by
 refine jq mixed (N := 153) (fn := uy) (c := bL uy) (ks := TM g) (ls := [IG g]) (by kernel_rfl) (by kernel_rfl) (by kernel_rfl) (LW hD) ⟨true, none⟩ (Ox hD) (by kernel_rfl) (Q := PI s g lv a c) (fun post hp => ?_) (fun R => by kernel_rfl)
 obtain ⟨⟨hs, hc, hl, hsome⟩, hp⟩ := hp
 have hp : post (dmS (aW s (g + 1) lv a c).d, [some (pOb s (aW s (g + 1) lv a c).a (aW s (g + 1) lv a c).c (aW s (g + 1) lv a c).e)]) := hp
 obtain ⟨R, hR⟩ := Option.isSome_iff_exists.1 hsome
 rw [yE (Nat.le_refl _) hR] at hp
 have b1 := wB s a
 have b2 := vR s a hs.2.2
 have hb : okS s (blk s a) := ⟨hs.1, by have := hs.2.1; omega, b2⟩
 have hcl := hc.1
 have hcu := hc.2
 have hl1 := hl.1
 have hl2 := hl.2
 have hs1 := hs.1
 have hb0 := hb.2.1
 have leaf : ∀ {v : SV} {d : Dm} {a c e : Int}, R = ⟨d, a, c, e⟩ -> leS v (dmS d) -> Gives post v [some (pOb s a c e)] := fun h hv => by
  rw [h] at hp; exact lY hp hv (aJ _)
 rw [iJ] at hR
 unfold PI
 simp only [lo, hi]
 refine ⟨aF _, aQ _, hs, fun h => (by cases h), fun _ => ⟨fun h => ⟨aF _, aQ _, trivial, ?_⟩, fun h1 => ⟨⟨by omega, by omega⟩, fun h => ⟨aF _, aQ _, trivial, ?_⟩, fun h2 =>
  ⟨fun h => ⟨aF _, aQ _, trivial, ?_⟩, fun h3 => ?_⟩⟩⟩⟩
 · have h : blk s a = s.size := by simpa using h
   rw [if_pos h] at hR
   injection hR with hR
   exact leaf hR.symm (aH _)
 · have h1 : ¬ blk s a = s.size := by simpa using h1
   rw [if_neg h1, if_pos (of_decide_eq_true h)] at hR
   injection hR with hR
   exact leaf hR.symm (aH _)
 · have h1 : ¬ blk s a = s.size := by simpa using h1
   rw [if_neg h1, if_neg (of_decide_eq_false h2), if_pos (of_decide_eq_true h)] at hR
   injection hR with hR
   exact leaf hR.symm (aH _)
 have h1 : ¬ blk s a = s.size := by simpa using h1
 have h2 := of_decide_eq_false h2
 have h3 := of_decide_eq_false h3
 rw [if_neg h1, if_neg h2, if_neg h3] at hR
 have hb1 : okS s (blk s a + 1) := ⟨hs1, by omega, by omega⟩
 have hc1 : okC (c + 1) := ⟨by omega, by omega⟩
 refine ⟨⟨hb0, by omega⟩, fun h => ⟨aF _, aQ _, trivial, ?_⟩, fun h41 => ?_⟩
 · have h : ak s (blk s a) = 41 := by simpa using h
   rw [if_pos h] at hR
   injection hR with hR
   exact leaf hR.symm (aH _)
 have h41 : ¬ ak s (blk s a) = 41 := by simpa using h41
 rw [if_neg h41] at hR
 refine ⟨fun h => ?_, fun h39 => ?_⟩
 · have h : ak s (blk s a) = 39 := by simpa using h
   rw [if_pos h] at hR
   obtain ⟨r, hr, hRr⟩ := Option.map_eq_some_iff.1 hR
   refine ⟨⟨by omega, by omega⟩, ⟨by omega, by omega⟩, aF _, aQ _, ⟨hb1, hc1, ⟨by omega, by omega⟩, by rw [hr]; rfl⟩, trivial, ?_⟩
   rw [yE (Nat.le_refl _) hr]
   exact leaf hRr.symm (QU r.d)
 have h39 : ¬ ak s (blk s a) = 39 := by simpa using h39
 rw [if_neg h39] at hR
 refine ⟨fun h => ?_, fun h40 => ?_⟩
 · have h : ak s (blk s a) = 40 := by simpa using h
   rw [if_pos h] at hR
   obtain ⟨k1, k2, k3, k4⟩ := (yF s g).2 _ _ _ _ _ hR hb1 hc1
   refine ⟨⟨by omega, by omega⟩, ⟨aH _, aH _, aH _, aH _, trivial⟩, ?_, ⟨Nat.le_refl _, hb1, hc1, ⟨by omega, by omega⟩, by simp [gL]; omega, by
    show (kL s g lv (blk s a + 1) (c + 1) []).isSome = true
    rw [hR]; rfl⟩, trivial, ?_⟩
   · exact ⟨dQ _, dQ _, ⟨rfl, aH _, (nG _ _ _).2 rfl, aH _, aH _, trivial⟩, ⟨rfl, rfl, rfl, fun k hk => absurd hk (by simp)⟩, trivial⟩
   · have e : kM s g lv (blk s a + 1) (c + 1) gL = R := EK hR
     rw [e]
     refine leaf (d := .mk 4 0 noS R.d.l) (a := R.a) (c := R.c) (e := R.e) (by rw [← k4]) (aH _)
 · have h40 : ¬ ak s (blk s a) = 40 := by simpa using h40
   rw [if_neg h40] at hR
   injection hR with hR
   exact ⟨aF _, aQ _, ⟨hb, hb0, Int.le_refl _⟩, trivial, leaf hR.symm (aH _)⟩
theorem Mh : ∀ f : Nat, (AX f).Ok prog := by
 have key : ∀ f : Nat, (∀ (s : ByteArray) (lv a c : Int), Ctr prog yO [.ptr 0 0, vI .i64 lv] [pOb s a c 0] (EP s f lv a c)) -> (AX f).Ok prog := by
  intro f hf al ol args obs out h
  unfold AX at h
  simp only at h
  repeat' split at h
  all_goals first
   | (simp only [Option.some.injEq, Prod.mk.injEq] at h; obtain ⟨rfl, rfl, rfl⟩ := h; apply hf)
   | cases h
 intro f
 induction f with
 | zero => exact key 0 fun s lv a c => uY fun h => by obtain ⟨_, _, _, h⟩ := h; simp [iJ] at h
 | succ f ih => exact key (f + 1) fun s lv a c => BD ih s lv a c
theorem Xh (s : ByteArray) (f : Nat) (lv a c : Int) : Ctr prog yO [.ptr 0 0, vI .i64 lv] [pOb s a c 0] (EP s f lv a c) := by
 cases f with
 | zero => exact uY fun h => by obtain ⟨_, _, _, h⟩ := h; simp [iJ] at h
 | succ f => exact BD (Mh f) s lv a c
end Rd
set_option linter.unusedSimpArgs false
set_option linter.unusedVariables false
open Rx Go
namespace Rd
structure RR where
 l : List Dm
 i : Int
 e : Int
instance : Inhabited RR := ⟨⟨[], 0, 0⟩⟩
def l7 (s : ByteArray) : Nat -> Int -> Int -> List Dm -> Option RR
 | 0, _, _, _ => none
 | f + 1, a, c, acc =>
   if a < s.size then match iJ s f 1 a c with
     | none => none
     | some r => if r.e ≠ 0 then some ⟨[], r.a, r.e⟩ else l7 s f (blk s r.a) r.c (acc ++ [r.d])
   else some ⟨acc, 0, 0⟩
def tH (s : ByteArray) (f : Nat) (a c : Int) (acc : List Dm) : RR := (l7 s f a c acc).getD default
def rT (f : Nat) (s : ByteArray) : Option RR := l7 s f (blk s 0) 0 []
def kH (f : Nat) (s : ByteArray) : RR := (rT f s).getD default
def Va (f : Nat) (s : ByteArray) : T Out := .need (s.size <= 3000 /\ (rT f s).isSome = true) (.ret (.tup [dmA (kH f s).l, vI .i64 (kH f s).i, vI .i64 (kH f s).e], []))
def Uy (f : Nat) : FC := ⟨EU, false, false, fun al ol => match al, ol with
 | [x], [] => match rdS x with
   | some s => some ([vS s], [], Va f s)
   | none => none
 | _, _ => none⟩
def J6 (s : ByteArray) : List SV := [vS s, .ptr 0 0, .nm 1]
def QB (s : ByteArray) (x : LX) : List (Option Ob) := [some (pOb s x.a x.c 0), some (.row kN 4 x.acc.length (dmL x.acc))]
def Ux (s : ByteArray) (r : RR) : T OutC := .ite (r.e == 0) (.ret (.exit 0, [.nm 0], [some (.row kN 4 r.l.length (dmL r.l))])) (.ret (.ret, [.dt (.cell (.slice none 0 0)), vI .i64 r.i, vI .i64 r.e], []))
def Pb (s : ByteArray) (g : Nat) (x : LX) : T OutC := .need (x.f <= g /\ okS s x.a /\ okC x.c /\ x.acc.length <= x.c /\ (l7 s x.f x.a x.c x.acc).isSome = true) (Ux s (tH s x.f x.a x.c x.acc))
def Iz (g : Nat) : LF := ⟨6, ⟨[0, 5, 6], [6], [2, 3, 4]⟩, fun svs obl => match svs, obl with
 | [_, .ptr 0 0, .nm 1], some (.cells _ [s, a, c, _]) :: _ => match rdS s, rdI a, rdI c with
   | some s, some a, some c => some (J6 s, QB s ⟨g, a, c, gL⟩, Pb s g ⟨g, a, c, gL⟩)
   | _, _, _ => none
 | _, _ => none⟩
def Ue (g : Nat) : List (Nat × Nat × FC) := [(4, 0, noF), (5, 1, bkF), (8, 1, AX g), (7, 1, bkF), (12, 1, clF)]
noncomputable def QA (g : Nat) : Env := fnE prog 46 0 (Ue g) [Iz g]
noncomputable def GY : Code := (jo 6 (bL AZ)).getD .skip
def MW (s : ByteArray) (g : Nat) (a c : Int) (acc : List Dm) (Rn : List SV -> List (Option Ob) -> Prop) (Re : Ex -> List SV -> List (Option Ob) -> Prop) : Prop :=
(((decide (a < (↑s.size : Int)) = true) ->
 ((Rx.leL ([SV.ptr 0 0, SV.dt (Dt.cell (.int .i64 (1 : Int)))]) ([SV.ptr 0 0, SV.dt (Dt.cell (.int .i64 (1 : Int)))])) /\
  ((Rx.aZ ([Ob.cells 113 [SV.dt (Dt.cell (.string s)), SV.dt (Dt.cell (.int .i64 a)), SV.dt (Dt.cell (.int .i64 c)), SV.dt (Dt.cell (.int .i64 (0 : Int)))]]) ([Ob.cells 113 [SV.dt (Dt.cell (.string s)), SV.dt (Dt.cell (.int .i64 a)), SV.dt (Dt.cell (.int .i64 c)), SV.dt (Dt.cell (.int .i64 (0 : Int)))]])) /\
   (((Rd.okS s a) /\
     ((Rd.okC c) /\
      ((Rd.okL (1 : Int)) /\
       ((Rd.iJ s g (1 : Int) a c).isSome = true)))) /\
    (((((Rd.aW s g (1 : Int) a c).e != (0 : Int)) = true) ->
      Re (Rx.Ex.ret) ([SV.dt (Dt.cell (.slice Option.none (0 : Nat) (0 : Nat))), SV.dt (Dt.cell (.int .i64 (Rd.aW s g (1 : Int) a c).a)), SV.dt (Dt.cell (.int .i64 (Rd.aW s g (1 : Int) a c).e))]) ([])) /\
     ((((Rd.aW s g (1 : Int) a c).e != (0 : Int)) = false) ->
      (((acc.length + (1 : Nat)) * (56 : Nat) <= (140737488355328 : Nat)) /\
       ((Rx.leL ([SV.ptr 0 0]) ([SV.ptr 0 0])) /\
        ((Rx.aZ ([Ob.cells 113 [SV.dt (Dt.cell (.string s)), SV.dt (Dt.cell (.int .i64 (Rd.aW s g (1 : Int) a c).a)), SV.dt (Dt.cell (.int .i64 (Rd.aW s g (1 : Int) a c).c)), SV.dt (Dt.cell (.int .i64 (Rd.aW s g (1 : Int) a c).e))]]) ([Ob.cells 113 [SV.dt (Dt.cell (.string s)), SV.dt (Dt.cell (.int .i64 (Rd.aW s g (1 : Int) a c).a)), SV.dt (Dt.cell (.int .i64 (Rd.aW s g (1 : Int) a c).c)), SV.dt (Dt.cell (.int .i64 (Rd.aW s g (1 : Int) a c).e))]])) /\
         ((Rd.okS s (Rd.aW s g (1 : Int) a c).a) /\
          Rn ([SV.dt (Dt.cell (.string s)), SV.ptr 0 0, SV.nm 1]) ([some (Ob.cells 113 [SV.dt (Dt.cell (.string s)), SV.dt (Dt.cell (.int .i64 (Rd.blk s (Rd.aW s g (1 : Int) a c).a))), SV.dt (Dt.cell (.int .i64 (Rd.aW s g (1 : Int) a c).c)), SV.dt (Dt.cell (.int .i64 (Rd.aW s g (1 : Int) a c).e))]), some (Ob.row 49 4 (acc.length + (1 : Nat)) (Rx.dZ acc.length (Rd.dmL acc) (Rx.l6 (4 : Nat) [Rx.Dt.cell (.int .i64 (Rd.aW s g (1 : Int) a c).d.k), Rx.Dt.cell (.int .i64 (Rd.aW s g (1 : Int) a c).d.n), Rx.Dt.cell (.string (Rd.aW s g (1 : Int) a c).d.s), Rx.Dt.arr (4 : Nat) (Rd.aW s g (1 : Int) a c).d.l.length (Rd.dmL (Rd.aW s g (1 : Int) a c).d.l)])))]))))))))))) /\
((decide (a < (↑s.size : Int)) = false) ->
 Re (Rx.Ex.exit (0 : Nat)) ([SV.nm 0]) ([some (Ob.row 49 4 (acc.length) (Rd.dmL acc))])))
def Vj (s : ByteArray) (g : Nat) (R : SV -> List (Option Ob) -> Prop) : Prop :=
(((decide ((↑s.size : Int) > (3000 : Int)) = true) ->
 (True /\
  R (SV.tup [SV.dt (Dt.cell (.slice Option.none (0 : Nat) (0 : Nat))), SV.dt (Dt.cell (.int .i64 (0 : Int))), SV.dt (Dt.cell (.int .i64 (1 : Int)))]) ([]))) /\
((decide ((↑s.size : Int) > (3000 : Int)) = false) ->
 ((Rx.leL ([SV.ptr 0 0]) ([SV.ptr 0 0])) /\
  ((Rx.aZ ([Ob.cells 113 [SV.dt (Dt.cell (.string s)), SV.ki .i64 ((0 : Int)), SV.ki .i64 ((0 : Int)), SV.ki .i64 ((0 : Int))]]) ([Ob.cells 113 [SV.dt (Dt.cell (.string s)), SV.dt (Dt.cell (.int .i64 (0 : Int))), SV.dt (Dt.cell (.int .i64 (0 : Int))), SV.dt (Dt.cell (.int .i64 (0 : Int)))]])) /\
   ((Rd.okS s (0 : Int)) /\
    (((Rx.leS (SV.dt (Dt.cell (.string s))) (SV.dt (Dt.cell (.string s)))) /\
      ((Rx.leS (SV.ptr 0 0) (SV.ptr 0 0)) /\
       ((Rx.leS (SV.nm 1) (SV.nm 1)) /\
        True))) /\
     ((Rx.leOO ([some (Ob.cells 113 [SV.dt (Dt.cell (.string s)), SV.dt (Dt.cell (.int .i64 (Rd.blk s (0 : Int)))), SV.dt (Dt.cell (.int .i64 (0 : Int))), SV.dt (Dt.cell (.int .i64 (0 : Int)))]), some (Ob.row 49 4 ((0 : Nat)) (fun x x_1 => Rx.aT))]) ([some (Ob.cells 113 [SV.dt (Dt.cell (.string s)), SV.dt (Dt.cell (.int .i64 (Rd.blk s (0 : Int)))), SV.dt (Dt.cell (.int .i64 (0 : Int))), SV.dt (Dt.cell (.int .i64 (0 : Int)))]), some (Ob.row 49 4 (Rd.gL.length) (Rd.dmL Rd.gL))])) /\
      (((g <= g) /\
        ((Rd.okS s (Rd.blk s (0 : Int))) /\
         ((Rd.okC (0 : Int)) /\
          (((↑Rd.gL.length : Int) <= (0 : Int)) /\
           ((Rd.l7 s g (Rd.blk s (0 : Int)) (0 : Int) Rd.gL).isSome = true))))) /\
       (((((Rd.tH s g (Rd.blk s (0 : Int)) (0 : Int) Rd.gL).e == (0 : Int)) = true) ->
         ((Rx.leL ([SV.dt (Dt.arr ((4 : Nat)) ((Rd.tH s g (Rd.blk s (0 : Int)) (0 : Int) Rd.gL).l.length) (Rd.dmL (Rd.tH s g (Rd.blk s (0 : Int)) (0 : Int) Rd.gL).l))]) ([SV.dt (Dt.arr ((4 : Nat)) ((Rd.tH s g (Rd.blk s (0 : Int)) (0 : Int) Rd.gL).l.length) (Rd.dmL (Rd.tH s g (Rd.blk s (0 : Int)) (0 : Int) Rd.gL).l))])) /\
          ((Rx.aZ ([]) ([])) /\
           (True /\
            R (SV.tup [SV.dt (Dt.arr ((4 : Nat)) ((Rd.tH s g (Rd.blk s (0 : Int)) (0 : Int) Rd.gL).l.length) (Rd.dmL (Rd.tH s g (Rd.blk s (0 : Int)) (0 : Int) Rd.gL).l)), SV.dt (Dt.cell (.int .i64 (0 : Int))), SV.dt (Dt.cell (.int .i64 (0 : Int)))]) ([]))))) /\
        ((((Rd.tH s g (Rd.blk s (0 : Int)) (0 : Int) Rd.gL).e == (0 : Int)) = false) ->
         (True /\
          R (SV.tup [SV.dt (Dt.cell (.slice Option.none (0 : Nat) (0 : Nat))), SV.dt (Dt.cell (.int .i64 (Rd.tH s g (Rd.blk s (0 : Int)) (0 : Int) Rd.gL).i)), SV.dt (Dt.cell (.int .i64 (Rd.tH s g (Rd.blk s (0 : Int)) (0 : Int) Rd.gL).e))]) ([]))))))))))))
theorem zR (s : ByteArray) : ∀ (f : Nat) (a c : Int) (acc : List Dm) (r : RR), l7 s f a c acc = some r -> (r.e = 0 -> r.i = 0) /\ (r.e ≠ 0 -> r.l = [])
 | 0, _, _, _, _, h => by simp [l7] at h
 | f + 1, a, c, acc, r, h => by
   rw [l7] at h
   split at h
   · split at h
     · cases h
     · rename_i q _
       split at h
       · rename_i g; injection h with h; subst h; exact ⟨fun h => absurd h g, fun _ => rfl⟩
       · exact zR s f _ _ _ _ h
   · injection h with h; subst h; exact ⟨fun _ => rfl, fun h => absurd rfl h⟩
theorem FX {s : ByteArray} {f : Nat} {a c : Int} {acc : List Dm} {r : RR} (hr : l7 s f a c acc = some r) : tH s f a c acc = r := by
 unfold tH
 rw [hr]; rfl
theorem Q9 {f : Nat} {s : ByteArray} {r : RR} (hr : rT f s = some r) : kH f s = r := by
 unfold kH
 rw [hr]; rfl
theorem LP (g : Nat) : ∀ x ∈ Ue g, x.2.2.Ok prog := all_cons RH (all_cons Gu (all_cons (Mh g) (all_cons Gu (all_cons VF all_nil))))
theorem Es {g : Nat} (s : ByteArray) (x : LX) : Sound (QA g) (.loop GY) (jJ ((Iz g).live.h.zip (J6 s)) (QB s x)) ((Pb s g x).map (OutC.st (Iz g).live)) := by
 refine rD mixed (ks := Ue g) (ls := [Iz g]) (c := GY) (nb := 0) (N := 46) (LP g) (gu (by kernel_rfl)) (Iz g).live (fun _ : LX => J6 s) (fun x => QB s x) (fun x => Pb s g x) (fun x => x.f)
  (Q := fun x => MW s g x.a x.c x.acc) (fun x post hp => ?_) (fun a Rn Re => by kernel_rfl) x
 obtain ⟨f, a, c, acc⟩ := x
 obtain ⟨⟨hf, hs, hc, ha, hsome⟩, hp0⟩ := hp
 obtain ⟨R, hR⟩ := Option.isSome_iff_exists.1 hsome
 have hp : (Ux s (tH s f a c acc)).holds post := hp0
 clear hp0
 rw [FX hR] at hp
 simp only at hf hs hc ha hR
 have hcl := hc.1
 have hcu := hc.2
 cases f with
 | zero => simp [l7] at hR
 | succ f =>
 rw [l7] at hR
 unfold MW
 refine ⟨fun hlt => ?_, fun hlt => ?_⟩
 · rw [if_pos (of_decide_eq_true hlt)] at hR
   split at hR
   · cases hR
   · rename_i r hr
     have er := yE (g := g) (by omega : f <= g) hr
     obtain ⟨k1, k2, k3, k4⟩ := (yF s f).1 _ _ _ _ hr hs hc
     refine ⟨aF _, aQ _, ⟨hs, hc, ⟨by omega, by omega⟩, by rw [jV (by omega : f <= g) hr]; rfl⟩, fun he => ?_, fun he => ⟨by show (acc.length + 1) * 56 <= 140737488355328; omega, aF _, aQ _, by rw [er]; exact k1, ?_⟩⟩
     · rw [er] at he ⊢
       have he : r.e ≠ 0 := by simpa using he
       rw [if_pos he] at hR
       injection hR with hR
       rw [← hR] at hp
       exact mq.mk (hp.2 (by simpa using he)) (aF _) (aJ _)
     · rw [er] at he ⊢
       have he : r.e = 0 := by simpa using he
       rw [if_neg (by simpa using he)] at hR
       have c1 := wB s r.a
       have c2 := vR s r.a k1.2.2
       refine ⟨⟨f, blk s r.a, r.c, acc ++ [r.d]⟩, Nat.lt_succ_self f, aF _, ?_, ⟨by simp only; omega, ⟨k1.1, by have := k1.2.1; simp only; omega, c2⟩, ⟨Int.le_trans hcl k3, k2 he⟩, by have := k4 he; simp; omega, by simp only; rw [hR]; rfl⟩, ?_⟩
       · rw [he]
         exact ⟨dQ _, ⟨rfl, rfl, by simp, fun k hk j hj => Hy acc r.d k j hk hj⟩, trivial⟩
       · simp only
         rw [FX hR]; exact hp
 · rw [if_neg (of_decide_eq_false hlt)] at hR
   injection hR with hR
   rw [← hR] at hp
   exact mq.mk (hp.1 rfl) (aF _) (aJ _)
theorem TK {g : Nat} : KG (QA g) (Iz g) GY := by
 intro svs obl args obs out h
 unfold Iz at h
 simp only at h
 repeat' split at h
 all_goals first
  | (simp only [Option.some.injEq, Prod.mk.injEq] at h; obtain ⟨rfl, rfl, rfl⟩ := h; apply Es)
  | cases h
theorem Oh {g : Nat} : (QA g).Lok (bK (bL AZ)) := by
 have hl : bK (bL AZ) = [GY] := by kernel_rfl
 rw [hl]
 refine lC fun f h c hc hr => ?_
 rw [List.mem_singleton] at hc h
 subst hc; subst h
 exact TK
theorem Hq (g : Nat) (s : ByteArray) : Ctr prog EU [vS s] [] (Va g s) := by
 refine jq mixed (N := 46) (fn := AZ) (c := bL AZ) (ks := Ue g) (ls := [Iz g]) (by kernel_rfl) (by kernel_rfl) (by kernel_rfl) (LP g) Bg Oh (by kernel_rfl) (Q := Vj s g) (fun post hp => ?_) (fun R => by kernel_rfl)
 obtain ⟨⟨hs, hsome⟩, hp⟩ := hp
 have hp : post (.tup [dmA (kH g s).l, vI .i64 (kH g s).i, vI .i64 (kH g s).e], []) := hp
 obtain ⟨R, hR⟩ := Option.isSome_iff_exists.1 hsome
 rw [Q9 hR] at hp
 have hR' : l7 s g (blk s 0) 0 gL = some R := hR
 have eR := FX hR'
 have b1 := wB s 0
 have b2 := vR s 0 (by omega)
 obtain ⟨k1, k2⟩ := zR _ _ _ _ _ _ hR
 unfold Vj
 refine ⟨fun h => absurd (of_decide_eq_true h) (by omega), fun _ => ⟨aF _, ⟨⟨rfl, aH _, (nG _ _ _).2 rfl, (nG _ _ _).2 rfl, (nG _ _ _).2 rfl, trivial⟩, trivial⟩, ⟨hs, by omega, by omega⟩, ⟨aH _, aH _, aH _, trivial⟩,
  ⟨dQ _, ⟨rfl, rfl, rfl, fun k hk => absurd hk (by simp)⟩, trivial⟩, ⟨Nat.le_refl _, ⟨hs, by omega, b2⟩, ⟨by omega, by omega⟩, by simp [gL], by rw [hR']; rfl⟩, fun he => ⟨aF _, trivial, trivial, ?_⟩, fun he => ⟨trivial, ?_⟩⟩⟩
 · rw [eR] at he ⊢
   have he : R.e = 0 := by simpa using he
   refine wM hp ?_
   rw [he, k1 he]
   exact aH _
 · rw [eR] at he ⊢
   have he : R.e ≠ 0 := by simpa using he
   refine wM hp ?_
   rw [k2 he]
   simp only [TG, uO, yA, and_true]
   refine ⟨?_, aH _, aH _⟩
   unfold dmA
   rw [Er]
   simp only [bV]
   exact ⟨rfl, rfl⟩
theorem YW (g : Nat) : (Uy g).Ok prog := by
 intro al ol args obs out h
 unfold Uy at h
 simp only at h
 repeat' split at h
 all_goals first
  | (simp only [Option.some.injEq, Prod.mk.injEq] at h; obtain ⟨rfl, rfl, rfl⟩ := h; apply Hq)
  | cases h
end Rd
