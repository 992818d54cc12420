/- Rx, part V4: rows of symbolic values: append. -/
import Derived.Test.YtkbdcpkbmfegdaaGreatDoorSRxV1
set_option linter.unusedSectionVars false
set_option linter.unusedSimpArgs false
set_option linter.unusedVariables false
namespace Rx
open Go
variable [Glob]
structure Els where
 m : Nat
 cs : List SV
 sh : Option (Tr SV)
def Rm (g : Nat -> Option Ob) (sz : Nat) : SV -> Option Els
 | .dt (.cell (.slice none 0 _)) => some ⟨0, [], none⟩
 | .sl j sz' o n _ => match g j with
   | some (.vec _ sz2 len tr _) => bif Nat.beq sz' sz && (Nat.beq sz2 sz && Nat.ble (o + n) len) then some ⟨n, dY tr (o * sz) (n * sz), bif Nat.beq o 0 then some tr else none⟩ else none
   | _ => none
 | .dt (.arr sz' m f) => bif Nat.beq sz' sz then some ⟨m, (List.range (m * sz)).map fun k => .dt (f (k / sz) (k % sz)), none⟩ else none
 | _ => none
structure ElsAt (C : Ctx) (w : World) (sz : Nat) (E : Els) (v : Value) : Prop where
 len : E.cs.length = E.m * sz
 sh : ∀ tr, E.sh = some tr -> ∀ k, k < E.m * sz -> tr.get .junk k = E.cs.getD k .junk
 val : ∃ B c, v = .slice B E.m c /\ (0 < E.m -> ∃ (a : Addr) (news : List Value), B = some a /\ news.length = E.m * sz /\ (∀ j u, news[j]? = some u -> w.cell? (a.add j) = some u) /\ relL C w E.cs news /\ ∀ y ∈ news, y.oneCell' = true)
theorem Ca {C : Ctx} {w : World} {b m x o n len sz : Nat} {t : TypeId} {tr : Tr SV} {cur : Array Value} (hh : w.heap[b]? = some (.cells cur t (0, 0))) (hx : 0 < n -> x = o * sz) (hlm : len <= m) (hs : cur.size = m * sz) (hl : o + n <= len)
  (hc : ∀ k, k < len * sz -> ∃ u, cur[k]? = some u /\ u.oneCell' = true /\ rel C w (tr.get .junk k) u) :
  ∃ news : List Value, news.length = n * sz /\ (∀ j u, news[j]? = some u -> w.cell? ((⟨b, x, none⟩ : Addr).add j) = some u) /\ relL C w (dY tr (o * sz) (n * sz)) news /\ (∀ y ∈ news, y.oneCell' = true) /\
    ∀ k, k < n * sz -> ∃ u, news[k]? = some u /\ cur[o * sz + k]? = some u := by
 have hon : o * sz + n * sz <= len * sz := by rw [← Nat.add_mul]; exact Nat.mul_le_mul_right _ hl
 have hlen : len * sz <= cur.size := by rw [hs]; exact Nat.mul_le_mul_right _ hlm
 have hlist : ((cur.toList.drop (o * sz)).take (n * sz)).length = n * sz := by simp; omega
 have hget : ∀ k, k < n * sz -> ((cur.toList.drop (o * sz)).take (n * sz))[k]? = cur[o * sz + k]? := fun k hk => by
  rw [List.getElem?_take, if_pos hk, List.getElem?_drop]; simp
 refine ⟨(cur.toList.drop (o * sz)).take (n * sz), hlist, fun j u hu => ?_, xX (by rw [hlist, bn]) fun j s v h1 h2 => ?_, fun y hy => ?_, fun k hk => ?_⟩
 · have hj : j < n * sz := by have := (List.getElem?_eq_some_iff.1 hu).1; omega
   rw [hget j hj] at hu
   have hn : 0 < n := by
    rcases Nat.eq_zero_or_pos n with h | h
    · subst h; simp at hj
    · exact h
   rw [hx hn, aZ, cell_of_row w b _ cur t (0, 0) hh]
   exact hu
 · have hj : j < n * sz := by
    have := (List.getElem?_eq_some_iff.1 h1).1
    rwa [bn] at this
   rw [iU tr _ _ j hj] at h1
   injection h1 with h1
   subst h1
   rw [hget j hj] at h2
   obtain ⟨u, h3, _, h4⟩ := hc (o * sz + j) (by omega)
   rw [h3] at h2
   injection h2 with h2
   subst h2
   exact h4
 · obtain ⟨j, hj⟩ := List.getElem?_of_mem hy
   have hjl : j < n * sz := by have := (List.getElem?_eq_some_iff.1 hj).1; omega
   rw [hget j hjl] at hj
   obtain ⟨u, h3, h4, _⟩ := hc (o * sz + j) (by omega)
   rw [h3] at hj
   injection hj with hj
   subst hj
   exact h4
 · obtain ⟨u, h3, _, _⟩ := hc (o * sz + k) (by omega)
   exact ⟨u, by rw [hget k hk]; exact h3, h3⟩
theorem Ro {C : Ctx} {w : World} {g : Nat -> Option Ob} (hg : ObsOk C w g) {sz : Nat} {x : SV} {v : Value} {E : Els} (hx : rel C w x v) (h : Rm g sz x = some E) : ElsAt C w sz E v := by
 unfold Rm at h
 split at h
 · injection h with h
   subst h
   rw [aj] at hx
   subst hx
   exact ⟨by simp, fun tr h => (by cases h), none, _, rfl, fun h => absurd h (Nat.lt_irrefl 0)⟩
 · rename_i j sz' o n c
   split at h
   · rename_i t sz2 len tr ex hgi
     cases hb : (Nat.beq sz' sz && (Nat.beq sz2 sz && Nat.ble (o + n) len)) with
     | false => rw [hb] at h; cases h
     | true =>
       rw [hb, cond_true] at h
       injection h with h
       subst h
       simp only [Bool.and_eq_true] at hb
       have e1 := Nat.eq_of_beq_eq_true hb.1
       have e2 := Nat.eq_of_beq_eq_true hb.2.1
       have e3 := Nat.le_of_ble_eq_true hb.2.2
       subst e1; subst e2
       obtain ⟨b, m, cc, x, hν, rfl, hx0, hncc, hom, hc1, hc2⟩ := hx
       obtain ⟨_, hlm, hex, hρ, cur, hrow, hsz, hcells⟩ := AY (hg j _ hgi) hν
       refine ⟨bn _ _ _, fun tr' h k hk => ?_, _, _, rfl, fun hn => ?_⟩
       · cases ho : Nat.beq o 0 with
         | false => rw [ho] at h; cases h
         | true =>
           rw [ho, cond_true] at h
           injection h with h
           subst h
           have := Nat.eq_of_beq_eq_true ho
           subst this
           rw [List.getD_eq_getElem?_getD, iU tr _ _ k hk]
           simp
       · obtain ⟨news, n1, n2, n3, n4, _⟩ := Ca hrow (fun _ => by
          rcases hx0 with h | h
          · have hn : 0 < n := hn
            omega
          · exact h) hlm hsz e3 hcells
         exact ⟨_, news, rfl, n1, n2, n3, n4⟩
   · cases h
 · rename_i sz' m f
   cases hb : Nat.beq sz' sz with
   | false => rw [hb] at h; cases h
   | true =>
     rw [hb, cond_true] at h
     injection h with h
     subst h
     have e1 := Nat.eq_of_beq_eq_true hb
     subst e1
     obtain ⟨A, c, rfl, hnc, _⟩ := hx.here
     refine ⟨by simp, fun tr h => (by cases h), _, _, rfl, fun hm => ?_⟩
     obtain ⟨a, c', news, e, hl, hnews, hcells⟩ := CV hx hm
     injection e with e1 e2 e3
     have h1 : ∀ (j : Nat) u, news[j]? = some u -> u.oneCell' = true /\ rel C w (.dt (f (j / sz') (j % sz'))) u := by
      intro j u hu
      have hlt : j < m * sz' := by rw [← hl]; exact (List.getElem?_eq_some_iff.1 hu).1
      obtain ⟨d1, d2, d3⟩ := qo hlt
      obtain ⟨q', hq1, hq2, hq3⟩ := hcells _ _ d1 d2
      rw [d3, hu] at hq1
      injection hq1 with hq1; subst hq1; exact ⟨hq2, hq3⟩
     refine ⟨a, news, e1, hl, hnews, xX (by simp [hl]) fun j s v hs hv => ?_, fun y hy => ?_⟩
     · have hlt : j < m * sz' := by rw [← hl]; exact (List.getElem?_eq_some_iff.1 hv).1
       simp only [List.getElem?_map, List.getElem?_range hlt, Option.map_some, Option.some.injEq] at hs
       subst hs
       exact (h1 j v hv).2
     · obtain ⟨j, hj⟩ := List.getElem?_of_mem hy
       exact (h1 j y hj).1
 · cases h
def rJ (n sz : Nat) (tr0 : Tr SV) (E : Els) : Tr SV :=
 match n, E.sh with
 | 0, some tr => tr
 | _, _ => kM tr0 (n * sz) E.cs
theorem KA {n sz : Nat} {tr0 : Tr SV} {E : Els} (hl : E.cs.length = E.m * sz) (hsh : ∀ tr, E.sh = some tr -> ∀ k, k < E.m * sz -> tr.get .junk k = E.cs.getD k .junk) (hb : (n + E.m) * sz <= 65535) {k : Nat} (hk : k < (n + E.m) * sz) :
  (rJ n sz tr0 E).get .junk k = if k < n * sz then tr0.get .junk k else E.cs.getD (k - n * sz) .junk := by
 have e : (n + E.m) * sz = n * sz + E.m * sz := Nat.add_mul _ _ _
 have gen : (kM tr0 (n * sz) E.cs).get .junk k = if k < n * sz then tr0.get .junk k else E.cs.getD (k - n * sz) .junk := by
  rw [gW _ _ _ _ (by omega)]
  by_cases h : k < n * sz
  · rw [if_neg (by omega), if_pos h]
  · rw [if_pos (by omega), if_neg h]
 cases n with
 | succ n => exact gen
 | zero =>
   unfold rJ
   cases hs : E.sh with
   | none => exact gen
   | some tr =>
     simp only [Nat.zero_mul, Nat.zero_add] at e hk ⊢
     rw [if_neg (by omega), Nat.sub_zero]
     exact hsh tr hs k hk
theorem rM {C : Ctx} {w : World} {n sz : Nat} {tr0 : Tr SV} {E : Els} {news : List Value} {cur : Array Value} (hl : E.cs.length = E.m * sz) (hsh : ∀ tr, E.sh = some tr -> ∀ k, k < E.m * sz -> tr.get .junk k = E.cs.getD k .junk) (hb : (n + E.m) * sz <= 65535)
  (hr : relL C w E.cs news) (h1 : ∀ y ∈ news, y.oneCell' = true) (hpre : ∀ k, k < n * sz -> ∃ u, cur[k]? = some u /\ u.oneCell' = true /\ rel C w (tr0.get .junk k) u) (hnew : ∀ k u, news[k]? = some u -> cur[n * sz + k]? = some u) :
  ∀ k, k < (n + E.m) * sz -> ∃ u, cur[k]? = some u /\ u.oneCell' = true /\ rel C w ((rJ n sz tr0 E).get .junk k) u := by
 intro k hk
 rw [KA hl hsh hb hk]
 have e : (n + E.m) * sz = n * sz + E.m * sz := Nat.add_mul _ _ _
 by_cases h : k < n * sz
 · rw [if_pos h]; exact hpre k h
 · rw [if_neg h]
   have hj : k - n * sz < E.cs.length := by omega
   obtain ⟨u, q1, q2⟩ := aY (k - n * sz) _ hr (List.getElem?_eq_getElem hj)
   refine ⟨u, ?_, h1 u (List.mem_of_getElem? q1), ?_⟩
   · have := hnew _ _ q1
     rwa [show n * sz + (k - n * sz) = k by omega] at this
   · rw [List.getD_eq_getElem?_getD, List.getElem?_eq_getElem hj]; exact q2
def EU (P : Program) (g : Nat -> Option Ob) (new : Nat) (t : TypeId) (s x : SV) : Option (T Res) :=
 match P.underlying t with
 | some (.slice e) => match wN P e with
   | some (sz, by') => match Rm g sz x with
     | some E => match s with
       | .dt (.cell (.slice none 0 0)) => some (match E.m with
         | 0 => .ret ⟨.dt (.cell (.slice none 0 0)), .none⟩
         | m + 1 => bif Nat.ble ((m + 1) * by') 140737488355328 && Nat.ble ((m + 1) * sz) 65535 then
             .ret ⟨.sl new sz 0 (m + 1) none, ⟨[(new, some (.vec e sz (m + 1) (rJ 0 sz .nil E) false))], [new]⟩⟩ else .fail)
       | .sl i sz' o n c => match g i with
         | some (.vec t' sz2 len tr ex) => some (bif Nat.beq t' e && (Nat.beq sz' sz && (Nat.beq sz2 sz && (Nat.ble (o + n) len && (Nat.ble ((n + E.m) * by') 140737488355328 && (Nat.ble ((n + E.m) * sz) 65535 && Nat.ble (len * sz) 65535))))) then
             match E.m with
             | 0 => .ret ⟨.sl i sz' o n c, .none⟩
             | m + 1 => bif c.isNone && (Nat.beq o 0 && Nat.ble (n + (m + 1)) len) then
                   .ret ⟨.sl i sz 0 (n + (m + 1)) none, ⟨[(i, some (.vec t' sz len (kM tr (n * sz) E.cs) ex))], []⟩⟩
                 else bif (match c with
                     | some k => Nat.blt k (n + (m + 1))
                     | none => ex && Nat.blt len (o + (n + (m + 1)))) then
                   .ret ⟨.sl new sz 0 (n + (m + 1)) none, ⟨[(new, some (.vec e sz (n + (m + 1)) (rJ n sz (bif Nat.beq o 0 then tr else kM .nil 0 (dY tr (o * sz) (n * sz))) E) false))], [new]⟩⟩
                 else bif c.isNone && Nat.beq o 0 then
                   .ret ⟨.sl new sz 0 (n + (m + 1)) none, ⟨[(i, none), (new, some (.vec e sz (n + (m + 1)) (rJ n sz tr E) false))], [new]⟩⟩
                 else .fail
           else .fail)
         | _ => none
       | _ => none
     | none => none
   | none => none
 | _ => none
theorem Ce {P : Program} {C : Ctx} {w : World} {g : Nat -> Option Ob} (hw : WF C w) (hg : ObsOk C w g) {new : Nat} (t ty : TypeId) (s x : SV) (u v : Value) {tr : T Res} {r : Res}
  (hs : rel C w s u) (hx : rel C w x v) (ha : EU P g new t s x = some tr) (hok : tr.ok) (hval : tr.val = some r) (hnew : ∀ i, i ∈ r.eff.new -> C.ν i = none) :
  ∃ v' w' C', (Builtin.append_ #[t, t] ty #[u, v]).run P w = .ok v' w' /\ Came C w r C' w' v' := by
 unfold EU at ha
 split at ha
 · rename_i e ht
   split at ha
   · rename_i sz by' hrt
     obtain ⟨i0, z, hi, hz, hsz, hbb, hzs, hsz0, hby0⟩ := iQ hrt
     subst hsz; subst hbb
     split at ha
     · rename_i E hE
       have hEa := Ro hg hx hE
       obtain ⟨B, c', hv', hnz⟩ := hEa.val
       subst hv'
       split at ha
       ·
        injection ha with ha
        subst ha
        rw [aj] at hs
        subst hs
        split at hok
        · rename_i hm
          simp only [hm, T.val, Option.some.injEq] at hval
          subst hval
          rw [hm]
          exact ⟨_, w, C, nT ht hi none B 0 0 c' (Nat.le_refl _), Came.pure hw (aj.2 rfl)⟩
        · rename_i m hm
          simp only [hm] at hval
          cases hb : (Nat.ble ((m + 1) * i0.bytes) 140737488355328 && Nat.ble ((m + 1) * i0.size) 65535) with
          | false => rw [hb] at hok; simp [T.ok] at hok
          | true =>
            rw [hb] at hval
            simp only [cond_true, T.val, Option.some.injEq] at hval
            subst hval
            simp only [Bool.and_eq_true] at hb
            have b1 := Nat.le_of_ble_eq_true hb.1
            have b2 := Nat.le_of_ble_eq_true hb.2
            have hnn : C.ν new = none := hnew new (by simp)
            obtain ⟨a, news, rfl, n1, n2, n3, n4⟩ := hnz (by omega)
            have hmb : m + 1 <= 140737488355328 := Nat.le_trans (Nat.le_mul_of_pos_right _ hby0) b1
            rw [hm] at n1 ⊢
            have hr := run_append_nil (P := P) w t ty e i0 z ht hi hz a (m + 1) c' news n1 n2 (by omega) (by omega) (by omega)
            have hge := grownCap_ge w (m + 1) 0 e
            have hsh := hEa.sh
            have hlen := hEa.len
            refine ⟨_, _, _, hr, Came.Bo hw hnn ⟨rfl, rfl, rfl, by simp, fun k hk _ => heap_alloc_old w.drew _ hk⟩ (by simp) (heap_alloc_new w.drew _) (m := grownCap w (m + 1) 0 e) ?_ hge hge (fun h => by cases h) ?_⟩
            · simp only [Array.size_append, List.size_toArray, size_zeroCells, hzs, n1, ← Nat.add_mul]
              congr 1; omega
            · have := rM (n := 0) (tr0 := .nil) (cur := news.toArray ++ Builtin.zeroCells z.cells (grownCap w (m + 1) 0 e - (m + 1))) hlen hsh (by rw [hm]; simpa using b2) n3 n4 (fun k hk => by simp at hk) (fun k u hu => by
               have hk : k < news.length := (List.getElem?_eq_some_iff.1 hu).1
               simp only [Nat.zero_mul, Nat.zero_add]
               rw [Array.getElem?_append_left (by simpa using hk)]
               simpa using hu)
              rw [hm] at this
              simpa using this
       · rename_i i sz' o n c
         split at ha
         · rename_i t' sz2 len tr0 ex hgi
           injection ha with ha
           subst ha
           cases hb : (Nat.beq t' e && (Nat.beq sz' i0.size && (Nat.beq sz2 i0.size && (Nat.ble (o + n) len && (Nat.ble ((n + E.m) * i0.bytes) 140737488355328 && (Nat.ble ((n + E.m) * i0.size) 65535 && Nat.ble (len * i0.size) 65535)))))) with
           | false => rw [hb] at hok; simp [T.ok] at hok
           | true =>
           rw [hb] at hok hval
           simp only [cond_true] at hok hval
           simp only [Bool.and_eq_true] at hb
           obtain ⟨b0, b1, b2, b3, b4, b5, b6⟩ := hb
           have b0 := Nat.eq_of_beq_eq_true b0
           have b1 := Nat.eq_of_beq_eq_true b1
           have b2 := Nat.eq_of_beq_eq_true b2
           have b3 := Nat.le_of_ble_eq_true b3
           have b4 := Nat.le_of_ble_eq_true b4
           have b5 := Nat.le_of_ble_eq_true b5
           have b6 := Nat.le_of_ble_eq_true b6
           subst b0; subst b1; subst b2
           have hs0 := hs
           obtain ⟨b, m0, cc, xo, hν, rfl, hx0, hncc, hom, hc1, hc2⟩ := hs
           obtain ⟨_, hlm, hex, hρ, cur, hrow, hcsz, hcells⟩ := AY (hg i _ hgi) hν
           split at hok
           · rename_i hm
             simp only [hm, T.val, Option.some.injEq] at hval
             subst hval
             rw [hm]
             exact ⟨_, w, C, nT ht hi _ B n cc c' hncc, Came.pure hw hs0⟩
           · rename_i m hm
             simp only [hm] at hval
             replace hm : E.m = m + 1 := hm
             rw [hm] at b4 b5 ⊢
             obtain ⟨a, news, rfl, n1, n2, n3, n4⟩ := hnz (by omega)
             have hsh := hEa.sh
             have hlen := hEa.len
             have hnm : n + (m + 1) <= 140737488355328 := Nat.le_trans (Nat.le_mul_of_pos_right _ hby0) b4
             have eadd : (n + (m + 1)) * i0.size = n * i0.size + (m + 1) * i0.size := Nat.add_mul _ _ _
             have hlcur : len * i0.size <= cur.size := by rw [hcsz]; exact Nat.mul_le_mul_right _ hlm
             rw [hm] at n1
             obtain ⟨olds, o1, o2, o3, o4, o5⟩ := Ca (n := n) (o := o) hrow (fun hn => by
              rcases hx0 with h | h
              · omega
              · exact h) hlm hcsz b3 hcells
             have grow : cc < n + (m + 1) -> ∀ (tr1 : Tr SV), (∀ k, k < n * i0.size -> tr1.get .junk k = tr0.get .junk (o * i0.size + k)) -> ∃ w1 cur1, (Builtin.append_ #[t, t] ty #[.slice (some ⟨b, xo, none⟩) n cc, .slice (some a) (m + 1) c']).run P w = .ok (.slice (some ⟨w.heap.size, 0, none⟩) (n + (m + 1)) (grownCap w (n + (m + 1)) cc t')) w1 /\
               Ag (fun _ => False) w w1 /\ w.heap.size < w1.heap.size /\ w1.heap[w.heap.size]? = some (.cells cur1 t' (0, 0)) /\ cur1.size = grownCap w (n + (m + 1)) cc t' * i0.size /\ n + (m + 1) <= grownCap w (n + (m + 1)) cc t' /\
               ∀ k, k < (n + (m + 1)) * i0.size -> ∃ u, cur1[k]? = some u /\ u.oneCell' = true /\ rel C w ((rJ n i0.size tr1 E).get .junk k) u := by
              intro hlt tr1 htr1
              have hge := grownCap_ge w (n + (m + 1)) cc t'
              have hr := run_append_grow (P := P) w t ty t' i0 z ht hi hz ⟨b, xo, none⟩ n cc olds o1 o2 a (m + 1) c' news n1 n2 hlt (by omega) (growslice_fits hlt b4)
              refine ⟨_, _, hr, ⟨rfl, rfl, rfl, by simp, fun k hk _ => heap_alloc_old w.drew _ hk⟩, by simp, heap_alloc_new w.drew _, ?_, hge, ?_⟩
              · simp only [Array.size_append, List.size_toArray, size_zeroCells, hzs, n1, o1, ← Nat.add_mul]
                congr 1; omega
              · have := rM (n := n) (tr0 := tr1) (cur := olds.toArray ++ news.toArray ++ Builtin.zeroCells z.cells (grownCap w (n + (m + 1)) cc t' - (n + (m + 1)))) hlen hsh (by rw [hm]; exact b5) n3 n4 (fun k hk => by
                  obtain ⟨u, q1, q2⟩ := o5 k hk
                  refine ⟨u, ?_, o4 u (List.mem_of_getElem? q1), ?_⟩
                  · rw [Array.append_assoc, Array.getElem?_append_left (by simp; omega)]
                    simpa using q1
                  · have := aY k _ o3 (iU tr0 _ _ k hk)
                    obtain ⟨u', r1, r2⟩ := this
                    rw [q1] at r1
                    injection r1 with r1
                    subst r1
                    rw [htr1 k hk]; exact r2) (fun k u hu => by
                 have hk : k < news.length := (List.getElem?_eq_some_iff.1 hu).1
                 rw [Array.append_assoc, Array.getElem?_append_right (by simp; omega), Array.getElem?_append_left (by simp; omega)]
                 simp only [List.size_toArray, o1, List.getElem?_toArray]
                 rw [show n * i0.size + k - n * i0.size = k by omega]
                 exact hu)
                rw [hm] at this
                exact this
             have hstep0 : ∀ (j : Nat), j = i -> Eff.X ⟨[(i, some (Ob.vec t' i0.size len (kM tr0 (n * i0.size) E.cs) ex))], []⟩ j := fun j hj => by subst hj; simp [Eff.X, Eff.touched]
             cases q1 : (c.isNone && (Nat.beq o 0 && Nat.ble (n + (m + 1)) len)) with
             | true =>
               rw [q1] at hval
               simp only [cond_true, T.val, Option.some.injEq] at hval
               subst hval
               simp only [Bool.and_eq_true, Option.isNone_iff_eq_none] at q1
               obtain ⟨p1, p2, p3⟩ := q1
               have p2 := Nat.eq_of_beq_eq_true p2
               have p3 := Nat.le_of_ble_eq_true p3
               subst p1; subst p2
               have hcm : cc = m0 := by have := hc2 rfl; omega
               subst hcm
               have hxo : xo = 0 := by
                rcases hx0 with h | h
                · omega
                · simpa using h
               subst hxo
               have hfit : n * i0.size + news.length <= cur.size := by
                rw [n1, ← eadd, hcsz]
                exact Nat.mul_le_mul_right _ (by omega)
               have hr := run_append_room (P := P) w t ty t' i0 ht hi b n cc cur hrow a (m + 1) c' news n1 n2 n4 (by omega) hfit
               have hset := setRow_heap w b cur (cur.toList.take (n * i0.size) ++ news ++ cur.toList.drop (n * i0.size + news.length)).toArray t' (0, 0) hrow
               have hstep : Step (fun j => j = i) C w C (w.setRow b (cur.toList.take (n * i0.size) ++ news ++ cur.toList.drop (n * i0.size + news.length)).toArray) := by
                refine ⟨fun _ _ h => h, rfl, fun j _ h => .inl ⟨j, h⟩, fun _ _ _ h => h, ⟨rfl, rfl, rfl, by simp, fun k hk hn => ?_⟩⟩
                have : k ≠ b := fun e => hn ⟨i, rfl, e ▸ hρ⟩
                exact setRow_other w b k _ this
               refine ⟨_, _, C, hr, ⟨b, cc, cc, 0, hν, rfl, .inr (by simp), by omega, by omega, fun k hk => (by cases hk), fun _ => (by omega)⟩, hstep.mono hstep0, jc hw hstep, fun j h => .inl h, fun j ob' hj => ?_⟩
               by_cases hji : j = i
               · subst hji
                 simp [List.lookup] at hj
                 subst hj
                 refine ⟨b, cc, hρ, hν, hlm, hex, _, hset, ?_, fun k hk => ?_⟩
                 · simp; omega
                 · have hks : k < cur.size := by omega
                   have hlen' : E.cs.length = (m + 1) * i0.size := by rw [hlen, hm]
                   have hin : n * i0.size + (m + 1) * i0.size <= len * i0.size := by rw [← eadd]; exact Nat.mul_le_mul_right _ p3
                   have hsp : (cur.toList.take (n * i0.size) ++ news ++ cur.toList.drop (n * i0.size + news.length)) = splice cur.toList (n * i0.size) news := rfl
                   simp only [List.getElem?_toArray]
                   rw [hsp, kH _ _ _ _ (by simp; omega), gW E.cs tr0 _ k (by omega)]
                   by_cases hkx : n * i0.size <= k /\ k < n * i0.size + E.cs.length
                   · rw [if_pos (by omega), if_pos hkx]
                     have hjl : k - n * i0.size < E.cs.length := by omega
                     obtain ⟨y, hy, hry⟩ := aY _ _ (cO hstep _ _ n3) (List.getElem?_eq_getElem hjl)
                     refine ⟨y, hy, n4 y (List.mem_of_getElem? hy), ?_⟩
                     rw [List.getD_eq_getElem?_getD, List.getElem?_eq_getElem hjl]; exact hry
                   · rw [if_neg (by omega), if_neg hkx]
                     obtain ⟨y, hy, hy1, hry⟩ := hcells k hk
                     exact ⟨y, by simpa using hy, hy1, aC hstep _ _ hry⟩
               · have : (j == i) = false := by simpa using hji
                 simp [List.lookup, this] at hj
             | false =>
             rw [q1] at hok hval
             simp only [cond_false] at hok hval
             cases q2 : (match c with
                 | some k => Nat.blt k (n + (m + 1))
                 | none => ex && Nat.blt len (o + (n + (m + 1)))) with
             | true =>
               rw [q2] at hval
               simp only [cond_true, T.val, Option.some.injEq] at hval
               subst hval
               have hlt : cc < n + (m + 1) := by
                cases hc : c with
                | some k =>
                  rw [hc] at q2
                  simp only [Nat.blt_eq] at q2
                  have := hc1 k hc
                  omega
                | none =>
                  rw [hc] at q2
                  simp only [Bool.and_eq_true, Nat.blt_eq] at q2
                  have h1 := hc2 hc
                  have h2 := hex q2.1
                  omega
               have hnn : C.ν new = none := hnew new (by simp)
               obtain ⟨w1, cur1, g1, g2, g3, g4, g5, g6, g7⟩ := grow hlt (bif Nat.beq o 0 then tr0 else kM .nil 0 (dY tr0 (o * i0.size) (n * i0.size))) (fun k hk => by
                cases ho : Nat.beq o 0 with
                | true =>
                  have := Nat.eq_of_beq_eq_true ho
                  subst this
                  simp
                | false =>
                  have hon : o * i0.size + n * i0.size <= len * i0.size := by rw [← Nat.add_mul]; exact Nat.mul_le_mul_right _ b3
                  rw [cond_false, gW _ _ _ _ (by rw [bn]; omega), if_pos (by rw [bn]; omega), Nat.sub_zero, List.getD_eq_getElem?_getD, iU _ _ _ _ hk]
                  rfl)
               exact ⟨_, _, _, g1, Came.Bo hw hnn g2 g3 g4 g5 g6 g6 (fun h => by cases h) g7⟩
             | false =>
             rw [q2] at hok hval
             simp only [cond_false] at hok hval
             cases q3 : (c.isNone && Nat.beq o 0) with
             | false => rw [q3] at hok; simp [T.ok] at hok
             | true =>
               rw [q3] at hval
               simp only [cond_true, T.val, Option.some.injEq] at hval
               subst hval
               simp only [Bool.and_eq_true, Option.isNone_iff_eq_none] at q3
               obtain ⟨p1, p2⟩ := q3
               have p2 := Nat.eq_of_beq_eq_true p2
               subst p1; subst p2
               have hnn : C.ν new = none := hnew new (by simp)
               have hcm : cc = m0 := by have := hc2 rfl; omega
               subst hcm
               by_cases hroom : n + (m + 1) <= cc
               · have hxo : xo = 0 := by
                  rcases hx0 with h | h
                  · omega
                  · simpa using h
                 subst hxo
                 have hfit : n * i0.size + news.length <= cur.size := by
                  rw [n1, ← eadd, hcsz]
                  exact Nat.mul_le_mul_right _ (by omega)
                 have hr := run_append_room (P := P) w t ty t' i0 ht hi b n cc cur hrow a (m + 1) c' news n1 n2 n4 hroom hfit
                 have hset := setRow_heap w b cur (cur.toList.take (n * i0.size) ++ news ++ cur.toList.drop (n * i0.size + news.length)).toArray t' (0, 0) hrow
                 refine ⟨_, _, _, hr, Came.row (old := some i) (b := b) hw hnn (fun c2 hc2 => by
                   injection hc2 with hc2; subst hc2
                   exact ⟨by have := hw.lt i b hρ; simpa using this, .inr ⟨i, rfl, hρ⟩⟩) ⟨rfl, rfl, rfl, by simp, fun k2 _ hk2 => setRow_other w b k2 _ (fun e => hk2 ⟨i, rfl, e ▸ hρ⟩)⟩ hset (by simp; omega) hroom hroom (fun h => by cases h) fun C' hst => ?_⟩
                 have hsp : (cur.toList.take (n * i0.size) ++ news ++ cur.toList.drop (n * i0.size + news.length)) = splice cur.toList (n * i0.size) news := rfl
                 have := rM (n := n) (tr0 := tr0) (cur := (cur.toList.take (n * i0.size) ++ news ++ cur.toList.drop (n * i0.size + news.length)).toArray) hlen hsh (by rw [hm]; exact b5) n3 n4 (fun k hk => by
                   have hnl : n * i0.size <= len * i0.size := Nat.mul_le_mul_right _ (by omega)
                   obtain ⟨y, hy, hy1, hry⟩ := hcells k (by omega)
                   refine ⟨y, ?_, hy1, hry⟩
                   simp only [List.getElem?_toArray]
                   rw [hsp, kH _ _ _ _ (by simp; omega), if_neg (by omega)]
                   simpa using hy) (fun k u hu => by
                   have hk : k < news.length := (List.getElem?_eq_some_iff.1 hu).1
                   simp only [List.getElem?_toArray]
                   rw [hsp, kH _ _ _ _ (by simp; omega), if_pos (by omega), show n * i0.size + k - n * i0.size = k by omega]
                   exact hu)
                 rw [hm] at this
                 intro k hk
                 obtain ⟨u, r1, r2, r3⟩ := this k hk
                 exact ⟨u, r1, r2, aC hst _ _ r3⟩
               · obtain ⟨w1, cur1, g1, g2, g3, g4, g5, g6, g7⟩ := grow (by omega) tr0 (fun k hk => by simp)
                 refine ⟨_, _, _, g1, Came.row (old := some i) (b := w.heap.size) hw hnn (fun c2 hc2 => by
                   injection hc2 with hc2; subst hc2
                   exact ⟨g3, .inl (Nat.le_refl _)⟩) (g2.mono fun _ _ h => h.elim) g4 g5 g6 g6 (fun h => by cases h) fun C' hst k hk => ?_⟩
                 obtain ⟨u, r1, r2, r3⟩ := g7 k hk
                 exact ⟨u, r1, r2, aC hst _ _ r3⟩
         · cases ha
       · cases ha
     · cases ha
   · cases ha
 · cases ha
end Rx
set_option linter.unusedSectionVars false
set_option linter.unusedSimpArgs false
set_option linter.unusedVariables false
namespace Rx
open Go
variable [Glob]
def nK : SV -> SV
 | .dt (.cell (.int k n)) => .ki k n
 | .dt (.cell (.bool b)) => .kb b
 | .dt (.ri k a b n) => .ri k a b n
 | s => s
theorem zJ {C : Ctx} {w : World} {s : SV} {v : Value} (h : rel C w s v) : rel C w (nK s) v := by
 unfold nK
 split
 · exact aj.1 h
 · exact aj.1 h
 · exact h.here
 · exact h
def dn1 : SV -> SV
 | .ki k n => vI k n
 | .kb b => vB b
 | .ri k _ _ n => vI k n
 | s => s
theorem N7 {C : Ctx} {w : World} {s : SV} {v : Value} (h : rel C w s v) : rel C w (dn1 s) v := by
 unfold dn1
 split
 · exact aj.2 h
 · exact aj.2 h
 · exact aj.2 h.1
 · exact h
def dn : SV -> SV
 | .agg l => .agg (l.map dn1)
 | s => dn1 s
theorem Ik {C : Ctx} {w : World} : ∀ {l : List SV} {vs : List Value}, relL C w l vs -> relL C w (l.map dn1) vs
 | [], _, h => h
 | s :: l, _, ⟨v, r, e, h1, h2⟩ => ⟨v, r, e, N7 h1, Ik h2⟩
theorem lN {C : Ctx} {w : World} {s : SV} {v : Value} (h : rel C w s v) : rel C w (dn s) v := by
 unfold dn
 split
 · obtain ⟨vs, e, r⟩ := h
   exact ⟨vs, e, Ik r⟩
 · exact N7 h
structure Bd where
 k : IntKind
 a : Int
 b : Int
 n : Int
def qW : SV -> Option Bd
 | .ki k n => some ⟨k, n, n, n⟩
 | .ri k a b n => some ⟨k, a, b, n⟩
 | .dt (.cell (.int k n)) => some ⟨k, n, n, n⟩
 | .dt (.ri k a b n) => some ⟨k, a, b, n⟩
 | _ => none
theorem qg {C : Ctx} {w : World} {s : SV} {v : Value} {x : Bd} (h : qW s = some x) (r : rel C w s v) : v = .int x.k x.n /\ x.a <= x.n /\ x.n <= x.b := by
 unfold qW at h
 split at h
 · injection h with h; subst h; exact ⟨r, Int.le_refl _, Int.le_refl _⟩
 · injection h with h; subst h; exact r
 · injection h with h; subst h; exact ⟨aj.1 r, Int.le_refl _, Int.le_refl _⟩
 · injection h with h; subst h; exact r.here
 · cases h
def Hw (yes no : Bool) (q : Bool) : T SV := bif yes then .ret (.kb true) else bif no then .ret (.kb false) else .ite q (.ret (.kb true)) (.ret (.kb false))
theorem J3 {yes no q : Bool} {s : SV} (h1 : yes = true -> q = true) (h2 : no = true -> q = false) (hv : (Hw yes no q).val = some s) : s = .kb q := by
 unfold Hw at hv
 cases yes with
 | true => simp only [cond_true, T.val, Option.some.injEq] at hv; rw [← hv, h1 rfl]
 | false =>
   cases no with
   | true => simp only [cond_false, cond_true, T.val, Option.some.injEq] at hv; rw [← hv, h2 rfl]
   | false =>
     simp only [cond_false, T.val] at hv
     cases q <;> simp at hv <;> exact hv.symm
def riV (op : BinOp) (k : IntKind) (x y : Bd) : T SV :=
 match op with
 | .add => bif decide (lo k <= x.a + y.a) && decide (x.b + y.b <= hi k) then .ret (.ri k (x.a + y.a) (x.b + y.b) (x.n + y.n)) else .fail
 | .sub => bif decide (lo k <= x.a - y.b) && decide (x.b - y.a <= hi k) then .ret (.ri k (x.a - y.b) (x.b - y.a) (x.n - y.n)) else .fail
 | .mul => bif decide (lo k <= 0) && (decide (0 <= x.a) && (decide (0 <= y.a) && decide (x.b * y.b <= hi k))) then .ret (.ri k (x.a * y.a) (x.b * y.b) (x.n * y.n)) else .fail
 | .quo => bif decide (lo k <= 0) && (decide (0 <= x.a) && (decide (1 <= y.a) && decide (x.b <= hi k))) then .ret (.ri k 0 x.b (x.n.tdiv y.n)) else .fail
 | .rem => bif decide (0 <= x.a) && decide (1 <= y.a) then .ret (.ri k 0 (y.b - 1) (x.n.tmod y.n)) else .fail
 | .eql => Hw (decide (x.a = x.b) && (decide (y.a = y.b) && decide (x.a = y.a))) (decide (x.b < y.a) || decide (y.b < x.a)) (x.n == y.n)
 | .neq => Hw (decide (x.b < y.a) || decide (y.b < x.a)) (decide (x.a = x.b) && (decide (y.a = y.b) && decide (x.a = y.a))) (x.n != y.n)
 | .lss => Hw (decide (x.b < y.a)) (decide (y.b <= x.a)) (decide (x.n < y.n))
 | .leq => Hw (decide (x.b <= y.a)) (decide (y.b < x.a)) (decide (x.n <= y.n))
 | .gtr => Hw (decide (y.b < x.a)) (decide (x.b <= y.a)) (decide (x.n > y.n))
 | .geq => Hw (decide (y.b <= x.a)) (decide (x.b < y.a)) (decide (x.n ≥ y.n))
 | _ => .fail
def kiV (op : BinOp) (k : IntKind) (x y : Int) : T SV :=
 match op with
 | .add => bif decide (lo k <= x + y) && decide (x + y <= hi k) then .ret (.ki k (x + y)) else .fail
 | .sub => bif decide (lo k <= x - y) && decide (x - y <= hi k) then .ret (.ki k (x - y)) else .fail
 | .mul => bif decide (lo k <= x * y) && decide (x * y <= hi k) then .ret (.ki k (x * y)) else .fail
 | .quo => bif !decide (y = 0) && (decide (lo k <= x.tdiv y) && decide (x.tdiv y <= hi k)) then .ret (.ki k (x.tdiv y)) else .fail
 | .rem => bif !decide (y = 0) then .ret (.ki k (x.tmod y)) else .fail
 | .eql => .ret (.kb (decide (x = y)))
 | .neq => .ret (.kb (!decide (x = y)))
 | .lss => .ret (.kb (decide (x < y)))
 | .leq => .ret (.kb (decide (x <= y)))
 | .gtr => .ret (.kb (decide (x > y)))
 | .geq => .ret (.kb (decide (x ≥ y)))
 | _ => .fail
theorem PV {P : Program} {w : World} (op : BinOp) (k : IntKind) (x y : Int) (t : TypeId) (a b : Operand) {s : SV} {C : Ctx}
  (hok : (kiV op k x y).ok) (hv : (kiV op k x y).val = some s) :
  ∃ r, (do eqGuard op t a b (.int k x) (.int k y); binOp op t (.int k x) (.int k y) : Sem Value).run P w = .ok r w /\ rel C w s r := by
 have key : (wo op k x y).ok -> ∀ q, (wo op k x y).val = some q -> (∀ r, q = .dt (.cell r) -> rel C w s r) -> ∃ r, (do eqGuard op t a b (.int k x) (.int k y); binOp op t (.int k x) (.int k y) : Sem Value).run P w = .ok r w /\ rel C w s r := by
  intro h1 q h2 h3
  obtain ⟨v, e, hr⟩ := oQ (P := P) (w := w) op k x y t a b h1 h2
  exact ⟨v, hr, h3 v e⟩
 unfold kiV at hok hv
 split at hok
 · cases hb : (decide (lo k <= x + y) && decide (x + y <= hi k)) with
   | false => rw [hb] at hok; exact hok.elim
   | true =>
     rw [hb] at hv
     simp only [cond_true, T.val, Option.some.injEq] at hv
     subst hv
     simp only [Bool.and_eq_true, decide_eq_true_eq] at hb
     exact key ⟨hb, trivial⟩ _ rfl fun r e => by injection e with e; injection e with e; subst e; rfl
 · cases hb : (decide (lo k <= x - y) && decide (x - y <= hi k)) with
   | false => rw [hb] at hok; exact hok.elim
   | true =>
     rw [hb] at hv
     simp only [cond_true, T.val, Option.some.injEq] at hv
     subst hv
     simp only [Bool.and_eq_true, decide_eq_true_eq] at hb
     exact key ⟨hb, trivial⟩ _ rfl fun r e => by injection e with e; injection e with e; subst e; rfl
 · cases hb : (decide (lo k <= x * y) && decide (x * y <= hi k)) with
   | false => rw [hb] at hok; exact hok.elim
   | true =>
     rw [hb] at hv
     simp only [cond_true, T.val, Option.some.injEq] at hv
     subst hv
     simp only [Bool.and_eq_true, decide_eq_true_eq] at hb
     exact key ⟨hb, trivial⟩ _ rfl fun r e => by injection e with e; injection e with e; subst e; rfl
 · cases hb : (!decide (y = 0) && (decide (lo k <= x.tdiv y) && decide (x.tdiv y <= hi k))) with
   | false => rw [hb] at hok; exact hok.elim
   | true =>
     rw [hb] at hv
     simp only [cond_true, T.val, Option.some.injEq] at hv
     subst hv
     simp only [Bool.and_eq_true, decide_eq_true_eq, Bool.not_eq_true', decide_eq_false_iff_not] at hb
     exact key ⟨hb, trivial⟩ _ rfl fun r e => by injection e with e; injection e with e; subst e; rfl
 · cases hb : (!decide (y = 0)) with
   | false => rw [hb] at hok; exact hok.elim
   | true =>
     rw [hb] at hv
     simp only [cond_true, T.val, Option.some.injEq] at hv
     subst hv
     simp only [Bool.not_eq_true', decide_eq_false_iff_not] at hb
     exact key ⟨hb, trivial⟩ _ rfl fun r e => by injection e with e; injection e with e; subst e; rfl
 all_goals first
  | (exact hok.elim; done)
  | (simp only [T.val, Option.some.injEq] at hv
     subst hv
     refine key trivial _ rfl fun r e => ?_
     injection e with e; injection e with e; subst e
     show Value.bool _ = Value.bool _
     congr 1
     try (simp [BEq.beq, bne]; done))
theorem Qf {P : Program} {w : World} (op : BinOp) (k : IntKind) (x y : Bd) (t : TypeId) (a b : Operand) {s : SV} {C : Ctx} (hx : x.a <= x.n /\ x.n <= x.b) (hy : y.a <= y.n /\ y.n <= y.b)
  (hok : (riV op k x y).ok) (hv : (riV op k x y).val = some s) :
  ∃ r, (do eqGuard op t a b (.int k x.n) (.int k y.n); binOp op t (.int k x.n) (.int k y.n) : Sem Value).run P w = .ok r w /\ rel C w s r := by
 have key : (wo op k x.n y.n).ok -> ∀ q, (wo op k x.n y.n).val = some q -> (∀ r, q = .dt (.cell r) -> rel C w s r) -> ∃ r, (do eqGuard op t a b (.int k x.n) (.int k y.n); binOp op t (.int k x.n) (.int k y.n) : Sem Value).run P w = .ok r w /\ rel C w s r := by
  intro h1 q h2 h3
  obtain ⟨v, e, hr⟩ := oQ (P := P) (w := w) op k x.n y.n t a b h1 h2
  exact ⟨v, hr, h3 v e⟩
 obtain ⟨hx1, hx2⟩ := hx
 obtain ⟨hy1, hy2⟩ := hy
 unfold riV at hok hv
 split at hok
 · cases hb : (decide (lo k <= x.a + y.a) && decide (x.b + y.b <= hi k)) with
   | false => rw [hb] at hok; exact hok.elim
   | true =>
     rw [hb] at hv
     simp only [cond_true, T.val, Option.some.injEq] at hv
     subst hv
     simp only [Bool.and_eq_true, decide_eq_true_eq] at hb
     exact key ⟨⟨by omega, by omega⟩, trivial⟩ _ rfl fun r e => by injection e with e; injection e with e; subst e; exact ⟨rfl, by omega, by omega⟩
 · cases hb : (decide (lo k <= x.a - y.b) && decide (x.b - y.a <= hi k)) with
   | false => rw [hb] at hok; exact hok.elim
   | true =>
     rw [hb] at hv
     simp only [cond_true, T.val, Option.some.injEq] at hv
     subst hv
     simp only [Bool.and_eq_true, decide_eq_true_eq] at hb
     exact key ⟨⟨by omega, by omega⟩, trivial⟩ _ rfl fun r e => by injection e with e; injection e with e; subst e; exact ⟨rfl, by omega, by omega⟩
 · cases hb : (decide (lo k <= 0) && (decide (0 <= x.a) && (decide (0 <= y.a) && decide (x.b * y.b <= hi k)))) with
   | false => rw [hb] at hok; exact hok.elim
   | true =>
     rw [hb] at hv
     simp only [cond_true, T.val, Option.some.injEq] at hv
     subst hv
     simp only [Bool.and_eq_true, decide_eq_true_eq] at hb
     obtain ⟨b0, b1, b2, b3⟩ := hb
     have m1 : x.a * y.a <= x.n * y.n := Int.mul_le_mul hx1 hy1 b2 (by omega)
     have m2 : x.n * y.n <= x.b * y.b := Int.mul_le_mul hx2 hy2 (by omega) (by omega)
     have m0 : 0 <= x.a * y.a := Int.mul_nonneg b1 b2
     exact key ⟨⟨by omega, by omega⟩, trivial⟩ _ rfl fun r e => by injection e with e; injection e with e; subst e; exact ⟨rfl, m1, m2⟩
 · cases hb : (decide (lo k <= 0) && (decide (0 <= x.a) && (decide (1 <= y.a) && decide (x.b <= hi k)))) with
   | false => rw [hb] at hok; exact hok.elim
   | true =>
     rw [hb] at hv
     simp only [cond_true, T.val, Option.some.injEq] at hv
     subst hv
     simp only [Bool.and_eq_true, decide_eq_true_eq] at hb
     obtain ⟨b0, b1, b2, b3⟩ := hb
     have m0 : 0 <= x.n.tdiv y.n := Int.tdiv_nonneg (by omega) (by omega)
     have m1 : x.n.tdiv y.n <= x.n := by
        rw [Int.tdiv_eq_ediv_of_nonneg (by omega)]
        exact Int.ediv_le_self _ (by omega)
     exact key ⟨⟨by omega, by omega, by omega⟩, trivial⟩ _ rfl fun r e => by injection e with e; injection e with e; subst e; exact ⟨rfl, m0, by omega⟩
 · cases hb : (decide (0 <= x.a) && decide (1 <= y.a)) with
   | false => rw [hb] at hok; exact hok.elim
   | true =>
     rw [hb] at hv
     simp only [cond_true, T.val, Option.some.injEq] at hv
     subst hv
     simp only [Bool.and_eq_true, decide_eq_true_eq] at hb
     have m0 : 0 <= x.n.tmod y.n := Int.tmod_nonneg _ (by omega)
     have m1 : x.n.tmod y.n < y.n := Int.tmod_lt_of_pos _ (by omega)
     exact key ⟨by omega, trivial⟩ _ rfl fun r e => by injection e with e; injection e with e; subst e; exact ⟨rfl, m0, by omega⟩
 all_goals first
  | (exact hok.elim; done)
  | (have hs := J3 (by
       intro h
       simp only [Bool.and_eq_true, Bool.or_eq_true, decide_eq_true_eq, beq_iff_eq, bne_iff_ne, ne_eq] at h ⊢
       omega) (by
       intro h
       simp only [Bool.and_eq_true, Bool.or_eq_true, decide_eq_true_eq, decide_eq_false_iff_not, beq_eq_false_iff_ne, bne_eq_false_iff_eq, ne_eq] at h ⊢
       omega) hv
     subst hs
     exact key trivial _ rfl fun r e => by injection e with e; injection e with e; subst e; rfl)
end Rx
