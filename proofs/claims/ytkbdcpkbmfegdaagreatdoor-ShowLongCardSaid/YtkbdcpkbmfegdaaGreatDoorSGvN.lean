/- (*maker).find: the last variable of a name, by a range over slices.Backward. -/
import Derived.Test.YtkbdcpkbmfegdaaGreatDoorSGvR
import Derived.RangeFuncBox
import Derived.RangeFuncLeaves
import Derived.RangeFuncFrom
import Derived.Shelf.Abstract
import Derived.OwnWalkIn
import Derived.TacticsInMore
import Derived.LoopNIn
import Derived.LoopIn
import Derived.RegionIn
import Derived.RangeFuncCalls
import Derived.Laws.Strings
set_option linter.unusedSimpArgs false
set_option linter.unusedVariables false
namespace Go.Proofs
open Go.RowKit Go.Shelf
attribute [local go_sem] Oper.semAt_some
def Tryz.upto {α : Type} (f : Nat -> α) (k : Nat) : List α := (List.range k).map f
theorem Tryz.EP {α : Type} (f : Nat -> α) (k : Nat) : Tryz.upto f (k + 1) = Tryz.upto f k ++ [f k] := by simp [Tryz.upto, List.range_succ]
theorem Tryz.lJ {α : Type} (f : Nat -> α) (k : Nat) : (Tryz.upto f k).length = k := by simp [Tryz.upto]
abbrev Tryz.pv (b : Nat) : Value := .pointer (some ⟨b, 0, none⟩)
def Tryz.qa (q : Nat -> Nat) (len j : Nat) : Nat := q (min j (len - 1))
theorem Tryz.XK {q : Nat -> Nat} {len j : Nat} (h : j < len) : Tryz.qa q len j = q j := by unfold Tryz.qa; rw [Nat.min_eq_left (by omega)]
set_option maxRecDepth 100000 in
set_option maxHeartbeats 4000000 in
theorem Tryz.QS (F : Fence) (n : Nat) (h7 : F.fn 223) (hro : F.round = none) (hn : 1 <= n) (l Bs n₀ b off len cap : Nat) (q : Nat -> Nat) (hreach : len * 8 <= 140737488351232) (hb : b < n₀) (J Jx : List Nat -> World -> Prop)
  (hY : ∀ pre (x : Nat) W, J pre W -> pre.length < len -> YieldAt F (n - 1) Tryz.prog l #[.int .i64 (x : Int), Tryz.pv (Tryz.qa q len x)] W fun e W' =>
   (e = .returned (.bool true) /\ J (pre ++ [x]) W' /\ Below n₀ W W') ∨ (e = .returned (.bool false) /\ Jx (pre ++ [x]) W'))
  (W : World) (hBs : W.cell? ⟨Bs, 0, none⟩ = some (.slice (some ⟨b, off, none⟩) len cap)) (hc : ∀ j, j < len -> W.cell? ⟨b, off + j, none⟩ = some (Tryz.pv (q j))) (h0 : J [] W) (hBn : Bs < n₀) :
  CallsIn F n Tryz.prog 223 #[.func (.yield l) #[] #[], .pointer (some ⟨Bs, 0, none⟩)] W fun e W' => (∃ v, e = .returned v) /\
   ((∃ ys, ys = Tryz.upto (fun k => len - 1 - k) len /\ J ys W') ∨ (∃ pre, (∃ k, k <= len /\ pre = Tryz.upto (fun k => len - 1 - k) k) /\ Jx pre W')) := by
 refine callsIn_of_wp Tryz.func223 rfl h7 ?_ hro
 simp only [Tryz.ntmps223, List.size_toArray, List.length_cons, List.length_nil, Nat.reduceAdd, Nat.reduceSub, Array.replicate_succ, Array.replicate_zero, List.push_toArray, List.append_toArray, List.nil_append, List.cons_append]
 gi_wp2
 gi_loopw [3] (fun i wr => ∃ k : Nat, k <= len /\ i = .int .i64 ((len : Int) - 1 - k) /\ J (Tryz.upto (fun k => len - 1 - k) k) wr /\ Below n₀ W wr)
  (fun i _ => (intOf i + 1).toNat)
 case atStart =>
  refine ⟨0, Nat.zero_le _, ?_, h0, Below.refl _ _⟩
  simp
 case round =>
  obtain ⟨k, hk, rfl, hJs, hnx⟩ := hrel
  have hBs' : wr.cell? ⟨Bs, 0, none⟩ = some (.slice (some ⟨b, off, none⟩) len cap) := (hnx.cell (p := ⟨Bs, 0, none⟩) hBn).trans hBs
  by_cases hlt : k < len
  · obtain ⟨j, hj⟩ : ∃ j : Nat, j = len - 1 - k := ⟨_, rfl⟩
    have hji : (len : Int) - 1 - k = (j : Int) := by omega
    have hjl : j < len := by omega
    have hcx : wr.cell? ⟨b, off + j, none⟩ = some (Tryz.pv (q j)) := (hnx.cell (p := ⟨b, off + j, none⟩) hb).trans (hc j hjl)
    obtain ⟨fn, tmps, assign, body, hy, hR⟩ := hY _ j wr hJs (by rw [Tryz.lJ]; exact hlt)
    have e1 : Tryz.upto (fun k => len - 1 - k) (k + 1) = Tryz.upto (fun k => len - 1 - k) k ++ [j] := by rw [Tryz.EP, hj]
    rw [Tryz.XK hjl] at hy
    rw [hji]
    have hjk : j + k + 1 = len := by omega
    clear hj hji
    gi_wp2
    refine hR.mono ?_
    rintro e W3 (⟨rfl, hJ3, hk3⟩ | ⟨rfl, hJx3⟩)
    · gi_wp2
      go_roundw
      case rel => exact ⟨k + 1, by omega, by simp only [Value.int.injEq, true_and]; omega, by rw [e1]; exact hJ3, hnx.trans hk3⟩
      case measure => simp only [intOf]; omega
    · gi_wp2
      refine bodyPost_ret (results_none rfl _ _ _) rfl ?_
      exact ⟨⟨_, rfl⟩, .inr ⟨_, ⟨k + 1, by omega, e1.symm⟩, hJx3⟩⟩
  · obtain rfl : k = len := by omega
    have e0 : ((k : Int) - 1 - k) = -1 := by omega
    rw [e0]
    gi_wp2
    go_end0
    exact ⟨⟨_, rfl⟩, .inl ⟨_, rfl, hJs⟩⟩
set_option maxRecDepth 100000 in
set_option maxHeartbeats 1000000 in
theorem Tryz.E5 (F : Fence) (n : Nat) (h7 : F.fn 223) (hro : F.round = none) (l Bs : Nat) (J : List Nat -> World -> Prop) (W : World) (hBs : W.cell? ⟨Bs, 0, none⟩ = some (.slice none 0 0)) (h0 : J [] W) :
  CallsIn F n Tryz.prog 223 #[.func (.yield l) #[] #[], .pointer (some ⟨Bs, 0, none⟩)] W fun e W' => (∃ v, e = .returned v) /\ J [] W' := by
 refine callsIn_of_wp Tryz.func223 rfl h7 ?_ hro
 simp only [Tryz.ntmps223, List.size_toArray, List.length_cons, List.length_nil, Nat.reduceAdd, Nat.reduceSub, Array.replicate_succ, Array.replicate_zero, List.push_toArray, List.append_toArray, List.nil_append, List.cons_append]
 gi_wp2
 gi_loopw [3] (fun i wr => i = .int .i64 (-1) /\ J [] wr) (fun _ _ => 0)
 case atStart => exact ⟨by simp, h0⟩
 case round =>
  obtain ⟨rfl, hJs⟩ := hrel
  gi_wp2
  go_end0
  exact ⟨⟨_, rfl⟩, hJs⟩
set_option maxHeartbeats 1000000 in
theorem Tryz.HV (F : Fence) (n : Nat) (h5 : F.fn 188) (hro : F.round = none) (a : Option Addr) (len cap : Nat) (w : World) :
  CallsIn F n Tryz.prog 188 #[.slice a len cap] w fun e w' => e = .returned (.func (.func 223) #[] #[.pointer (some ⟨w.heap.size, 0, none⟩)]) /\ w' = w.alloc (.cells #[.slice a len cap] 164) := by
 refine callsIn_of_wp Tryz.func188 rfl h5 ?_ hro
 simp only [Tryz.ntmps188, List.size_toArray, List.length_cons, List.length_nil, Nat.reduceAdd, Nat.reduceSub, Array.replicate_succ, Array.replicate_zero, List.push_toArray, List.append_toArray, List.nil_append, List.cons_append]
 gi_wp2
 go_ret
 exact ⟨rfl, rfl⟩
def Tryz.Vars (n₀ : Nat) (W : World) (sv : Value) (q : Nat -> Nat) (len : Nat) : Prop :=
 (sv = .slice none 0 0 /\ len = 0) ∨ ∃ b off cap, sv = .slice (some ⟨b, off, none⟩) len cap /\ b < n₀ /\ ∀ j, j < len -> W.cell? ⟨b, off + j, none⟩ = some (Tryz.pv (q j))
theorem Tryz.Vars.below {n₀ : Nat} {A B : World} (h : Below n₀ A B) {sv : Value} {q : Nat -> Nat} {len : Nat} : Tryz.Vars n₀ A sv q len -> Tryz.Vars n₀ B sv q len
 | .inl e => .inl e
 | .inr ⟨b, off, cap, e, hb, hc⟩ => .inr ⟨b, off, cap, e, hb, fun j hj => (h.cell (p := ⟨b, off + j, none⟩) hb).trans (hc j hj)⟩
theorem Tryz.J5 (F : Fence) (n : Nat) (h7 : F.fn 223) (hro : F.round = none) (hn : 1 <= n) (Bs n₀ : Nat) (sv : Value) (q : Nat -> Nat) (len : Nat) (hreach : len * 8 <= 140737488351232) (w : World) (hBs : Bs < w.heap.size) (hBn : Bs < n₀) (hn₀ : n₀ <= w.heap.size)
  (hc : w.cell? ⟨Bs, 0, none⟩ = some sv) (hI : Tryz.Vars n₀ w sv q len) :
  SeqStopsK F n Tryz.prog 223 #[.pointer (some ⟨Bs, 0, none⟩)] (fun x : Nat => #[Value.int .i64 (x : Int), Tryz.pv (Tryz.qa q len x)]) (Below n₀) (fun ys => ys = Tryz.upto (fun k => len - 1 - k) len)
   (fun pre => ∃ k, k <= len /\ pre = Tryz.upto (fun k => len - 1 - k) k) len w := fun l J Jx W hW _ _ hY h0 => by
 have hc' := (hW.cell (p := ⟨Bs, 0, none⟩) hBs).trans hc
 rcases hI.below (hW.mono hn₀) with ⟨rfl, rfl⟩ | ⟨b, off, cap, rfl, hb, hcs⟩
 · exact (Tryz.E5 F n h7 hro l Bs J W hc' h0).mono fun e W' ⟨he, hj⟩ => ⟨he, .inl ⟨_, rfl, hj⟩⟩
 · exact Tryz.QS F n h7 hro hn l Bs n₀ b off len cap q hreach hb J Jx hY W hc' hcs h0 hBn
set_option maxRecDepth 100000 in
set_option maxHeartbeats 8000000 in
theorem Tryz.V7 (F : Fence) (n : Nat) (h4 : F.fn 137) (h6 : F.fn 188) (h8 : F.fn 223) (hro : F.round = none) (hn : 3 <= n) (bm om : Nat) (nm : ByteArray) (a : Option Addr) (len cap : Nat) (q : Nat -> Nat) (nz : Nat -> ByteArray) (hreach : len * 8 <= 140737488351232)
  (w : World) (hm : w.cell? ⟨bm, om + 6, none⟩ = some (.slice a len cap)) (hI : Tryz.Vars w.heap.size w (.slice a len cap) q len) (hq : ∀ j, j < len -> w.cell? ⟨q j, 0, none⟩ = some (.string (nz j))) :
  CallsIn F n Tryz.prog 137 #[.pointer (some ⟨bm, om, none⟩), .string nm] w fun e W' =>
   ((e = .returned (.pointer none) /\ ∀ j, j < len -> nz j ≠ nm) ∨ (∃ k : Nat, k < len /\ e = .returned (Tryz.pv (q k)) /\ nz k = nm /\ ∀ j, k < j -> j < len -> nz j ≠ nm)) /\ Below w.heap.size w W' := by
 have h1 : 1 <= n := by omega
 refine callsIn_of_wp_marks Tryz.func137 rfl h4 ?_ hro
 simp only [Tryz.ntmps137, List.size_toArray, List.length_cons, List.length_nil, Nat.reduceAdd, Nat.reduceSub, Array.replicate_succ, Array.replicate_zero, List.push_toArray, List.append_toArray, List.nil_append, List.cons_append]
 have hB2 : Below w.heap.size w ((w.alloc (.cells #[.string nm] 9)).alloc (.cells #[.pointer none] 256)) := ((Below.refl _ w).alloc (Nat.le_refl _) _).alloc (by simp) _
 have hbm : bm < w.heap.size := World.block_lt_of_cell? _ _ hm
 have hm2 := (hB2.cell (p := ⟨bm, om + 6, none⟩) hbm).trans hm
 gi_wp2_with (gi_at_call 188; refine (Tryz.HV F (n - 1) h6 hro _ _ _ _).mono ?_; rintro e w' ⟨rfl, rfl⟩)
 have bN := Boxed.new w 9 (.string nm)
 have bR := Boxed.new (w.alloc (.cells #[.string nm] 9)) 256 (.pointer none)
 have bB := Boxed.new ((w.alloc (.cells #[.string nm] 9)).alloc (.cells #[.pointer none] 256)) 164 (.slice a len cap)
 rw [World.size_alloc] at bR
 rw [World.size_alloc, World.size_alloc] at bB
 have hB3 : Below w.heap.size w (((w.alloc (.cells #[.string nm] 9)).alloc (.cells #[.pointer none] 256)).alloc (.cells #[.slice a len cap] 164)) := hB2.alloc (by simp; omega) _
 have hI3 : Tryz.Vars (w.heap.size + 3) (((w.alloc (.cells #[.string nm] 9)).alloc (.cells #[.pointer none] 256)).alloc (.cells #[.slice a len cap] 164)) (.slice a len cap) q len := by
  rcases hI.below hB3 with h | ⟨b, off, c, e, hb, hcs⟩
  · exact .inl h
  · exact .inr ⟨b, off, c, e, by omega, hcs⟩
 refine wpIn_rangeFunc_ownG hro h1 (gf := 223) (lb := #[.pointer (some ⟨w.heap.size + 1 + 1, 0, none⟩)]) rfl h8 (enters_of Tryz.func223 (by kernel_rfl) rfl)
  (Tryz.J5 F (n - 1) h8 hro (by omega) (w.heap.size + 1 + 1) (w.heap.size + 3) _ q len hreach _ (by simp) (by omega) (by simp) bB.cell hI3) belowK_t (belowK_b (by simp)) (Below.refl _ _) (fun _ => rfl)
  (fun pre W => ((∀ p ∈ pre, nz (min p (len - 1)) ≠ nm) /\ (W.cell? ⟨w.heap.size, 0, none⟩ = some (.string nm) /\ W.cell? ⟨w.heap.size + 1, 0, none⟩ = some (.pointer none)) /\ W.frozen? ⟨w.heap.size + 1, 0, none⟩ = false) /\ Below w.heap.size w W)
  (fun c pre W => (c = .ret /\ ∃ ini last, pre = ini ++ [last] /\ (∀ p ∈ ini, nz (min p (len - 1)) ≠ nm) /\ nz (min last (len - 1)) = nm /\ W.cell? ⟨w.heap.size + 1, 0, none⟩ = some (Tryz.pv (Tryz.qa q len last))) /\ Below w.heap.size w W)
  (OwnFrom.and (Own.from (fun s A B row hs hg hr => ⟨hs.1, ⟨cell_kept hs.2.1.1 hg hr, cell_kept hs.2.1.2 hg hr⟩, (frozen_kept hs.2.1.2 hg hr).trans hs.2.2⟩) _) (ownFrom_below (Nat.le_refl _) (by simp; omega)))
  (fun c => OwnFrom.and (Own.from (fun s A B row hs hg hr => by obtain ⟨hc, ini, last, e1, e2, e3, e4⟩ := hs; exact ⟨hc, ini, last, e1, e2, e3, cell_kept e4 hg hr⟩) _) (ownFrom_below (Nat.le_refl _) (by simp; omega)))
  ⟨⟨by simp, ⟨((bN.alloc _).alloc _).cell, (bR.alloc _).cell⟩, (bR.alloc _).frozen⟩, hB3⟩
  (fun x => { tmps := #[.pointer (some ⟨bm, om, none⟩), .string nm, undef, .pointer (some ⟨w.heap.size, 0, none⟩), .pointer (some ⟨w.heap.size + 1, 0, none⟩), undef, Tryz.pv (Tryz.qa q len x), .pointer (some ⟨bm, om, none⟩), .pointer (some ⟨bm, om, none⟩), .pointer (some ⟨bm, om + 6, none⟩), .slice a len cap, .func (.func 223) #[] #[.pointer (some ⟨w.heap.size + 1 + 1, 0, none⟩)], .int .i64 (x : Int), Tryz.pv (Tryz.qa q len x), undef, undef, undef, undef, undef, undef, undef], defers := [] }) ?assign ?body ?done ?stop
 case assign =>
  intro l x W K hK
  gi_wp2
  exact hK
 case body =>
  rintro l pre x W ⟨⟨hp, ⟨hcn, hcr⟩, hfr⟩, hB⟩ hlen
  have hx : W.cell? ⟨Tryz.qa q len x, 0, none⟩ = some (.string (nz (min x (len - 1)))) := by
   have h1 := hq (min x (len - 1)) (by omega)
   exact (hB.cell (p := ⟨q (min x (len - 1)), 0, none⟩) (World.block_lt_of_cell? _ _ h1)).trans h1
  generalize hqx : Tryz.qa q len x = qx at *
  generalize hnx : nz (min x (len - 1)) = nx at *
  gi_wp2
  gi_region
  all_goals gi_wp2
  all_goals first
   | (have hx : (nx.toList == nm.toList) = true := by assumption
      have hxe : nx = nm := by
       rw [beq_iff_eq, ByteArray.toList_eq, ByteArray.toList_eq] at hx
       exact ByteArray.ext (Array.toList_inj.1 hx)
      exact ⟨((KeepsOthers.setCell _ _ _).trans (KeepsOthers.drew _)).from _, ⟨rfl, pre, x, rfl, hp, hnx.trans hxe, (World.cell?_setCell_same' _ _ _ (by rw [hcr]; rfl)).trans (by rw [hqx])⟩, (hB.setCell (p := ⟨w.heap.size + 1, 0, none⟩) (Nat.le_succ _) _).drew⟩)
   | (have hx : (nx.toList == nm.toList) = false := by assumption
      have hxe : nx ≠ nm := by
       rintro rfl
       simp at hx
      exact ⟨(KeepsOthers.drew _).from _, (Below.refl _ _).drew, ⟨fun p hp' => (List.mem_append.1 hp').elim (hp p) (fun e => by simp at e; subst e; rw [hnx]; exact hxe), ⟨hcn, hcr⟩, hfr⟩, hB.drew⟩)
 case done =>
  rintro D ys W hD rfl ⟨⟨hne, ⟨hcn, hcr⟩, hfr⟩, hB⟩ hK
  gi_wp2
  have hK' := (KeepsOthers.setCell W ⟨w.heap.size + 1, 0, none⟩ (.pointer none)).same D _ hK rfl
  refine ⟨by simp, .inl ⟨_, _, rfl, run_takeDeferred hK', ?_⟩⟩
  have hc5 := cell_kept (World.cell?_setCell_same' W ⟨w.heap.size + 1, 0, none⟩ (.pointer none) (by rw [hcr]; rfl)) (grownBy_putObj' _ D (.deferred none)) (fun r e => by cases e; exact ⟨_, hK', rfl⟩)
  refine ⟨.pointer none, ?_, .inl ⟨rfl, fun j hj => ?_⟩, (hB.setCell (p := ⟨w.heap.size + 1, 0, none⟩) (Nat.le_succ _) _).trans (belowK_b (w := w) (Nat.le_refl _) _ D _ _ (by simp at hD; omega) hK' rfl rfl)⟩
  · simp [results, Tryz.f137, go_sem, hc5]
  · have := hne j (by simp only [Tryz.upto, List.mem_map, List.mem_range]; exact ⟨len - 1 - j, by omega, by omega⟩)
    rwa [Nat.min_eq_left (by omega)] at this
 case stop =>
  rintro D c pre W hD ⟨k, hk, rfl⟩ ⟨⟨rfl, ini, last, e1, e2, e3, hcr⟩, hB⟩ hK
  gi_wp2
  refine ⟨by simp, .inl ⟨_, _, rfl, run_takeDeferred hK, ?_⟩⟩
  have hc5 := cell_kept hcr (grownBy_putObj' _ D (.deferred none)) (fun r e => by cases e; exact ⟨_, hK, rfl⟩)
  obtain ⟨k', rfl⟩ : ∃ k', k = k' + 1 := by
   cases k with
   | zero => simp [Tryz.upto] at e1
   | succ k' => exact ⟨k', rfl⟩
  rw [Tryz.EP] at e1
  obtain ⟨rfl, e5⟩ := List.append_inj' e1 rfl
  obtain rfl : len - 1 - k' = last := by simpa using e5
  rw [Nat.min_eq_left (by omega)] at e3
  rw [Tryz.XK (by omega)] at hc5
  refine ⟨Tryz.pv (q (len - 1 - k')), ?_, .inr ⟨len - 1 - k', by omega, rfl, e3, fun j hj hjl => ?_⟩, hB.trans (belowK_b (w := w) (Nat.le_refl _) W D _ _ (by simp at hD; omega) hK rfl rfl)⟩
  · simp [results, Tryz.f137, go_sem, hc5]
  · have := e2 j (by simp only [Tryz.upto, List.mem_map, List.mem_range]; exact ⟨len - 1 - j, by omega, by omega⟩)
    rwa [Nat.min_eq_left (by omega)] at this
end Go.Proofs
