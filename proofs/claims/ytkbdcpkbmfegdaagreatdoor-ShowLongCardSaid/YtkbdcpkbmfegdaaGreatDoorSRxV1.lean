/- Rx, part V1: rows whose cells are symbolic values: loads, stores, indexes, cuts, lengths. -/
import Derived.Test.YtkbdcpkbmfegdaaGreatDoorSRxS
import Derived.Laws.MakeOwn
set_option linter.unusedSectionVars false
set_option linter.unusedSimpArgs false
set_option linter.unusedVariables false
namespace Rx
open Go
variable [Glob]
def dY (tr : Tr SV) : Nat -> Nat -> List SV
 | _, 0 => []
 | k, n + 1 => tr.get .junk k :: dY tr (k + 1) n
def kM (tr : Tr SV) : Nat -> List SV -> Tr SV
 | _, [] => tr
 | k, s :: l => kM (tr.set .junk CAP k s) (k + 1) l
theorem bn (tr : Tr SV) : ∀ (n k : Nat), (dY tr k n).length = n
 | 0, _ => rfl
 | n + 1, k => by simp [dY, bn tr n (k + 1)]
theorem iU (tr : Tr SV) : ∀ (n k j : Nat), j < n -> (dY tr k n)[j]? = some (tr.get .junk (k + j))
 | 0, _, _, h => by omega
 | n + 1, k, 0, _ => by simp [dY]
 | n + 1, k, j + 1, h => by
   simp only [dY, List.getElem?_cons_succ]
   rw [iU tr n (k + 1) j (by omega)]
   congr 2; omega
theorem Yr {n : Nat} (h : n < 65535) : n < 2 ^ CAP - 1 := by simpa [CAP] using h
theorem gW : ∀ (l : List SV) (tr : Tr SV) (k j : Nat), k + l.length <= 65535 -> (kM tr k l).get .junk j = if k <= j /\ j < k + l.length then l.getD (j - k) .junk else tr.get .junk j
 | [], tr, k, j, _ => by
   simp only [kM, List.length_nil, Nat.add_zero]
   rw [if_neg (by omega)]
 | s :: l, tr, k, j, h => by
   simp only [List.length_cons] at h
   simp only [kM]
   rw [gW l _ (k + 1) j (by omega), Tr.qw .junk CAP tr k s j (Yr (by omega))]
   simp only [List.length_cons]
   by_cases hj : j = k
   · subst hj
     rw [if_neg (by omega), if_pos rfl, if_pos (by omega)]
     simp
   · by_cases h1 : k + 1 <= j /\ j < k + 1 + l.length
     · rw [if_pos h1, if_pos (by omega)]
       have : j - k = (j - (k + 1)) + 1 := by omega
       rw [this]; simp
     · rw [if_neg h1, if_neg hj, if_neg (by omega)]
theorem xX {C : Ctx} {w : World} : ∀ {l : List SV} {vs : List Value}, vs.length = l.length -> (∀ (j : Nat) (s : SV) (v : Value), l[j]? = some s -> vs[j]? = some v -> rel C w s v) -> relL C w l vs
 | [], [], _, _ => rfl
 | [], _ :: _, h, _ => by simp at h
 | _ :: _, [], h, _ => by simp at h
 | s :: l, v :: vs, h, hr => ⟨v, vs, rfl, hr 0 s v rfl rfl, xX (by simpa using h) fun j s' v' h1 h2 => hr (j + 1) s' v' (by simpa using h1) (by simpa using h2)⟩
theorem AY {C : Ctx} {w : World} {i b m m' : Nat} {t : TypeId} {sz len : Nat} {tr : Tr SV} {ex : Bool} (h : obHolds C w i (.vec t sz len tr ex)) (hb : C.ν i = some (.slice (some ⟨b, 0, none⟩) m m')) :
  m' = m /\ len <= m /\ (ex = true -> len = m) /\ C.ρ i = some b /\ ∃ cur : Array Value, w.heap[b]? = some (.cells cur t (0, 0)) /\ cur.size = m * sz /\ ∀ k, k < len * sz -> ∃ u, cur[k]? = some u /\ u.oneCell' = true /\ rel C w (tr.get .junk k) u := by
 obtain ⟨b', m2, h1, h2, h3, h4, cur, h5, h6, h7⟩ := h
 rw [hb] at h2
 injection h2 with h2
 injection h2 with e1 e2 e3
 injection e1 with e1
 injection e1 with e1
 subst e1; subst e2; subst e3
 exact ⟨rfl, h3, h4, h1, cur, h5, h6, h7⟩
def fA (P : Program) (g : Nat -> Option Ob) (t : TypeId) (p : SV) : T SV :=
 match p with
 | .rp i idx sz off => match g i with
   | some (.vec _ sz' len tr _) => match nQ P t, bg P t with
     | some true, some n => bif Nat.beq sz sz' && (Nat.ble (off + n) sz && Nat.blt idx len) then .ret (.agg (dY tr (idx * sz + off) n)) else .fail
     | some false, some _ => bif Nat.beq sz sz' && (Nat.blt off sz && Nat.blt idx len) then .ret (tr.get .junk (idx * sz + off)) else .fail
     | _, _ => .fail
   | _ => fU P g t p
 | _ => fU P g t p
theorem Vr {idx off sz len j : Nat} (h : idx < len) (hj : off + j < sz) : idx * sz + off + j < len * sz := by
 have : (idx + 1) * sz <= len * sz := Nat.mul_le_mul_right sz h
 rw [Nat.add_mul, Nat.one_mul] at this
 omega
theorem wD {P : Program} {C : Ctx} {w : World} {g : Nat -> Option Ob} (hg : ObsOk C w g) (t : TypeId) (p s : SV) (u : Value)
  (hp : rel C w p u) (hok : (fA P g t p).ok) (hv : (fA P g t p).val = some s) :
  ∃ v, (Instr.loadAt t u).run P w = .ok v w /\ rel C w s v := by
 unfold fA at hok hv
 split at hok
 · rename_i i idx sz off
   split at hok
   · rename_i t' sz' len tr ex hgi
     simp only [hgi] at hv
     obtain ⟨b, m, c', hb', rfl⟩ := hp
     obtain ⟨_, hlm, _, hρ, cur, hrow, hsz, hcells⟩ := AY (hg i _ hgi) hb'
     split at hok
     · rename_i n ha hz
       simp only [ha, hz] at hv
       cases hc : (Nat.beq sz sz' && (Nat.ble (off + n) sz && Nat.blt idx len)) with
       | false => rw [hc] at hok; simp [T.ok] at hok
       | true =>
         rw [hc] at hv
         simp only [cond_true, T.val, Option.some.injEq] at hv
         subst hv
         simp only [Bool.and_eq_true, Nat.blt_eq] at hc
         have e1 := Nat.eq_of_beq_eq_true hc.1
         have e2 := Nat.le_of_ble_eq_true hc.2.1
         subst e1
         let cell : Nat -> Value := fun j => (w.cell? ⟨b, idx * sz + off + j, none⟩).getD undef
         have hcell : ∀ j, j < n -> w.cell? ⟨b, idx * sz + off + j, none⟩ = some (cell j) /\ rel C w (tr.get .junk (idx * sz + off + j)) (cell j) := fun j hj => by
          obtain ⟨u, hu, _, hr⟩ := hcells (idx * sz + off + j) (Vr hc.2.2 (by omega))
          have hh : w.cell? ⟨b, idx * sz + off + j, none⟩ = some u := by rw [cell_of_row w b _ cur t' (0, 0) hrow]; exact hu
          have : cell j = u := by simp [cell, hh]
          rw [this]; exact ⟨hh, hr⟩
         have hrun := run_loadCells (P := P) w ⟨b, idx * sz + off, none⟩ n cell (fun j hj => by rw [aZ]; exact (hcell j hj).1)
         refine ⟨.agg ((List.range n).map cell).toArray, ?_, _, rfl, ?_⟩
         · simp only [Instr.loadAt, Instr.sureAddr, loadVar, Sem.run_bind, Sem.run_pure, Result.andThen_ok, d9 ha, aL hz, if_true, hrun]
         · refine xX (by simp [bn]) fun j s v h1 h2 => ?_
           have hj : j < n := by
            have := (List.getElem?_eq_some_iff.1 h1).1
            rwa [bn] at this
           rw [iU tr n _ j hj] at h1
           injection h1 with h1
           subst h1
           simp only [List.getElem?_map, List.getElem?_range hj, Option.map_some, Option.some.injEq] at h2
           subst h2
           exact (hcell j hj).2
     · rename_i n ha hz
       simp only [ha, hz] at hv
       cases hc : (Nat.beq sz sz' && (Nat.blt off sz && Nat.blt idx len)) with
       | false => rw [hc] at hok; simp [T.ok] at hok
       | true =>
         rw [hc] at hv
         simp only [cond_true, T.val, Option.some.injEq] at hv
         subst hv
         simp only [Bool.and_eq_true, Nat.blt_eq] at hc
         have e1 := Nat.eq_of_beq_eq_true hc.1
         subst e1
         obtain ⟨u, hu, _, hr⟩ := hcells (idx * sz + off) (Vr (j := 0) hc.2.2 (by omega))
         have hcell : w.cell? ⟨b, idx * sz + off, none⟩ = some u := by rw [cell_of_row w b _ cur t' (0, 0) hrow]; exact hu
         refine ⟨u, ?_, hr⟩
         simp [Instr.loadAt, Instr.sureAddr, loadVar, d9 ha, run_load, hcell]
     · simp [T.ok] at hok
   · rename_i hno
     exact jG hg t _ s u hp hok (by
      revert hv
      dsimp only
      split
      · rename_i h; exact absurd h (hno _ _ _ _ _)
      · exact id)
 · rename_i hno
   exact jG hg t p s u hp hok (by
    revert hv
    split
    · rename_i h; exact absurd rfl (hno _ _ _ _)
    · exact id)
def rU (P : Program) (g : Nat -> Option Ob) (t : TypeId) (p v : SV) : T Res :=
 match p with
 | .rp i idx sz off => match g i with
   | some (.vec t' sz' len tr ex) => match bg P t, dz v with
     | some n, some us => bif Nat.beq us.length n && (us.all eB && (Nat.beq sz sz' && (Nat.ble (off + n) sz && (Nat.blt idx len && Nat.ble (len * sz) 65535)))) then .ret ⟨.junk, ⟨[(i, some (.vec t' sz' len (kM tr (idx * sz + off) us) ex))], []⟩⟩ else .fail
     | _, _ => .fail
   | _ => iZ P g t p v
 | _ => iZ P g t p v
theorem xB {C : Ctx} {w : World} {us : List SV} {xs : List Value} (h : us.all eB = true) (hr : relL C w us xs) : ∀ y ∈ xs, y.oneCell' = true := by
 intro y hy
 obtain ⟨j, hj⟩ := List.getElem?_of_mem hy
 have hxl := aQ hr
 have hjl : j < us.length := by
  have := (List.getElem?_eq_some_iff.1 hj).1; omega
 have hus : us[j]? = some us[j] := List.getElem?_eq_getElem hjl
 obtain ⟨y', hy', hry⟩ := aY j _ hr hus
 rw [hj] at hy'; injection hy' with hy'; subst hy'
 exact gV (List.all_eq_true.1 h _ (List.getElem_mem hjl)) hry
theorem GN {P : Program} {C : Ctx} {w : World} {g : Nat -> Option Ob} (hw : WF C w) (hg : ObsOk C w g) (t : TypeId) (p v : SV) (u x : Value) {r : Res}
  (hp : rel C w p u) (hx : rel C w v x) (hok : (rU P g t p v).ok) (hv : (rU P g t p v).val = some r) :
  ∃ w', (Instr.storeAt t u x).run P w = .ok () w' /\ Came C w r C w' undef := by
 unfold rU at hok hv
 split at hok
 · rename_i i idx sz off
   split at hok
   · rename_i t' sz' len tr ex hgi
     simp only [hgi] at hv
     obtain ⟨b, m, c', hb', rfl⟩ := hp
     obtain ⟨rfl, hlm, hex, hρ, cur, hrow, hsz, hcells⟩ := AY (hg i _ hgi) hb'
     split at hok
     · rename_i n us hz hc
       simp only [hz, hc] at hv
       cases hb : (Nat.beq us.length n && (us.all eB && (Nat.beq sz sz' && (Nat.ble (off + n) sz && (Nat.blt idx len && Nat.ble (len * sz) 65535))))) with
       | false => rw [hb] at hok; simp [T.ok] at hok
       | true =>
         rw [hb] at hv
         simp only [cond_true, T.val, Option.some.injEq] at hv
         subst hv
         simp only [Bool.and_eq_true, Nat.blt_eq] at hb
         obtain ⟨h1, h2, h3, h4, h5, h6⟩ := hb
         have e1 := Nat.eq_of_beq_eq_true h1
         have e3 := Nat.eq_of_beq_eq_true h3
         have e4 := Nat.le_of_ble_eq_true h4
         have e6 := Nat.le_of_ble_eq_true h6
         subst e1; subst e3
         obtain ⟨xs, hxs, hrx⟩ := gq hc hx
         have hxl := aQ hrx
         have hones := xB h2 hrx
         have hin : idx * sz + off + us.length <= len * sz := by
          have : (idx + 1) * sz <= len * sz := Nat.mul_le_mul_right sz h5
          rw [Nat.add_mul, Nat.one_mul] at this
          omega
         have hlen : len * sz <= cur.size := by rw [hsz]; exact Nat.mul_le_mul_right sz hlm
         have hrun := run_storeCells_at (P := P) b (idx * sz + off) t' xs 0 cur w hrow (by omega) hones
         have econ : (cur.toList.take (idx * sz + off + 0) ++ xs ++ cur.toList.drop (idx * sz + off + 0 + xs.length)).toArray = (splice cur.toList (idx * sz + off) xs).toArray := by simp [splice]
         rw [econ] at hrun
         have hset := setRow_heap w b cur (splice cur.toList (idx * sz + off) xs).toArray t' (0, 0) hrow
         have hstep : Step (fun j => j = i) C w C (w.setRow b (splice cur.toList (idx * sz + off) xs).toArray) := by
          refine ⟨fun _ _ h => h, rfl, fun j _ h => .inl ⟨j, h⟩, fun _ _ _ h => h, ⟨rfl, rfl, rfl, by simp, fun k hk hn => ?_⟩⟩
          have : k ≠ b := fun e => hn ⟨i, rfl, e ▸ hρ⟩
          exact setRow_other w b k _ this
         refine ⟨w.setRow b (splice cur.toList (idx * sz + off) xs).toArray, ?_, trivial, hstep.mono fun j hj => (by subst hj; simp [Eff.X, Eff.touched]), jc hw hstep, fun j h => .inl h, fun j ob' hj => ?_⟩
         · simp only [Instr.storeAt, Instr.sureAddr, storeVar, Sem.run_bind, Sem.run_pure, Result.andThen_ok, aL hz, hxs]
           rw [if_neg (by simp; omega)]
           exact hrun
         · by_cases hji : j = i
           · subst hji
             simp [List.lookup] at hj
             subst hj
             refine ⟨b, c', hρ, hb', hlm, hex, _, hset, ?_, fun k hk => ?_⟩
             · simp [splice]; omega
             · have hks : k < cur.size := by omega
               simp only [List.getElem?_toArray]
               rw [kH _ _ _ _ (by simp; omega), gW us tr _ k (by omega)]
               by_cases hkx : idx * sz + off <= k /\ k < idx * sz + off + us.length
               · rw [if_pos (by omega), if_pos hkx]
                 have hjl : k - (idx * sz + off) < us.length := by omega
                 have hus : us[k - (idx * sz + off)]? = some us[k - (idx * sz + off)] := List.getElem?_eq_getElem hjl
                 obtain ⟨y, hy, hry⟩ := aY _ _ (cO hstep _ _ hrx) hus
                 refine ⟨y, hy, hones y (List.mem_of_getElem? hy), ?_⟩
                 rw [List.getD_eq_getElem?_getD, hus]; exact hry
               · rw [if_neg (by omega), if_neg hkx]
                 obtain ⟨y, hy, hy1, hry⟩ := hcells k hk
                 exact ⟨y, by simpa using hy, hy1, aC hstep _ _ hry⟩
           · have : (j == i) = false := by simpa using hji
             simp [List.lookup, this] at hj
     · simp [T.ok] at hok
   · rename_i hno
     exact lY hw hg t _ v u x hp hx hok (by
      revert hv
      dsimp only
      split
      · rename_i h; exact absurd h (hno _ _ _ _ _)
      · exact id)
 · rename_i hno
   exact lY hw hg t p v u x hp hx hok (by
    revert hv
    split
    · rename_i h; exact absurd rfl (hno _ _ _ _)
    · exact id)
end Rx
set_option linter.unusedSectionVars false
set_option linter.unusedSimpArgs false
set_option linter.unusedVariables false
namespace Rx
open Go
variable [Glob]
def FX : SV -> Option Int
 | .ki _ n => some n
 | .dt (.cell (.int _ n)) => some n
 | _ => none
theorem iy {C : Ctx} {w : World} {s : SV} {v : Value} {n : Int} (h : FX s = some n) (r : rel C w s v) : ∃ k, v = .int k n := by
 unfold FX at h
 split at h
 · injection h with h; subst h; exact ⟨_, r⟩
 · injection h with h; subst h; exact ⟨_, aj.1 r⟩
 · cases h
def kg (P : Program) (t : TypeId) (x ix : SV) : Option (T SV) :=
 match x with
 | .sl i sz o n _ => match P.underlying t, FX ix with
   | some (.slice e), some iv => match bg P e with
     | some z => some (bif Nat.beq z sz && (decide (0 <= iv) && decide (iv < n)) then .ret (.rp i (o + iv.toNat) sz 0) else .fail)
     | none => some .fail
   | _, _ => some .fail
 | _ => none
theorem uX {P : Program} {C : Ctx} {w : World} (t : TypeId) (x ix s : SV) (u v : Value) {r : T SV}
  (hx : rel C w x u) (hi : rel C w ix v) (hr : kg P t x ix = some r) (hok : r.ok) (hv : r.val = some s) :
  ∃ y, (Instr.indexAt t u v).run P w = .ok y w /\ rel C w s y := by
 unfold kg at hr
 split at hr
 · rename_i i sz o n c
   split at hr
   · rename_i e iv hu hix
     split at hr
     · rename_i z hz
       injection hr with hr
       subst hr
       cases hb : (Nat.beq z sz && (decide (0 <= iv) && decide (iv < n))) with
       | false => rw [hb] at hok; simp [T.ok] at hok
       | true =>
         rw [hb] at hv
         simp only [cond_true, T.val, Option.some.injEq] at hv
         subst hv
         simp only [Bool.and_eq_true, decide_eq_true_eq] at hb
         have e1 := Nat.eq_of_beq_eq_true hb.1
         subst e1
         obtain ⟨k, rfl⟩ := iy hix hi
         obtain ⟨b, m, cc, x, hν, rfl, hx0, hncc, hom, h1, h2⟩ := hx
         have hx1 : x = o * z := by
          rcases hx0 with h | h
          · omega
          · exact h
         subst hx1
         refine ⟨.pointer (some ⟨b, (o + iv.toNat) * z + 0, none⟩), ?_, b, m, m, hν, rfl⟩
         simp only [Instr.indexAt, asIntOf, underlying, Sem.run_bind, Sem.run_pure, run_program, Result.andThen_ok, hu]
         rw [if_pos hb.2]
         simp only [Sem.run_bind, Sem.run_pure, Result.andThen_ok, aL hz, aZ, Nat.add_mul, Nat.add_zero]
     · injection hr with hr; subst hr; simp [T.ok] at hok
   · injection hr with hr; subst hr; simp [T.ok] at hok
 · cases hr
def Cg : Option SV -> Option (Option Int)
 | none => some none
 | some s => (FX s).map some
theorem bX {C : Ctx} {w : World} {b : Option SV} {vb : Option Value} {x : Option Int} (h : Cg b = some x) (h1 : ∀ s, b = some s -> ∃ v, vb = some v /\ rel C w s v) (h0 : b = none -> vb = none) :
  (x = none /\ vb = none) ∨ ∃ n k, x = some n /\ vb = some (.int k n) := by
 cases b with
 | none => injection h with h; subst h; exact .inl ⟨rfl, h0 rfl⟩
 | some s =>
   simp only [Cg, Option.map_eq_some_iff] at h
   obtain ⟨n, hn, rfl⟩ := h
   obtain ⟨v, rfl, hr⟩ := h1 s rfl
   obtain ⟨k, rfl⟩ := iy hn hr
   exact .inr ⟨n, k, rfl, rfl⟩
def z0 : Option Int -> Int
 | none => 0
 | some l => l
def zn (n : Nat) : Option Int -> Int
 | none => (n : Int)
 | some h => h
def cutV (P : Program) (t : TypeId) (x : SV) (low high most : Option SV) : Option (T SV) :=
 match x with
 | .sl i sz o n c => match P.underlying t, Cg low, Cg high, Cg most with
   | some (.slice e), some l, some h, some none => match bg P e with
     | some z => some (bif Nat.beq z sz && (decide (0 <= z0 l) && (decide (z0 l <= zn n h) && decide (zn n h <= n))) then .ret (.sl i sz (o + (z0 l).toNat) ((zn n h).toNat - (z0 l).toNat) (c.map fun k => k - (z0 l).toNat)) else .fail)
     | none => some .fail
   | some (.slice e), some l, some (some h), some (some m) => match bg P e with
     | some z => some (bif Nat.beq z sz && (decide (0 <= z0 l) && (decide (z0 l <= h) && (decide (h <= m) && decide (m <= n)))) then .ret (.sl i sz (o + (z0 l).toNat) (h.toNat - (z0 l).toNat) (some (m.toNat - (z0 l).toNat))) else .fail)
     | none => some .fail
   | _, _, _, _ => some .fail
 | .dt (.cell (.slice none 0 0)) => match P.underlying t, Cg low, Cg high, Cg most with
   | some (.slice e), some l, some h, some m => match bg P e with
     | some _ => some (bif decide (z0 l = 0) && (decide (zn 0 h = 0) && (decide (zn 0 m = 0) && (m.isNone || h.isSome))) then .ret (.dt (.cell (.slice none 0 0))) else .fail)
     | none => some .fail
   | _, _, _, _ => some .fail
 | _ => none
theorem rD {P : Program} {w : World} {n c : Nat} {l h : Option Int} {vl vh : Option Value} (hl : (l = none /\ vl = none) ∨ ∃ a k, l = some a /\ vl = some (.int k a)) (hh : (h = none /\ vh = none) ∨ ∃ a k, h = some a /\ vh = some (.int k a))
  (h0 : 0 <= z0 l) (h1 : z0 l <= zn n h) (h2 : zn n h <= c) : (Instr.sliceBounds true n c vl vh none).run P w = .ok ((z0 l).toNat, (zn n h).toNat, c) w := by
 have nn : (n : Int).toNat = n := by simp
 rcases hl with ⟨rfl, rfl⟩ | ⟨a, k, rfl, rfl⟩ <;> rcases hh with ⟨rfl, rfl⟩ | ⟨b, k', rfl, rfl⟩ <;> simp only [z0, zn] at h0 h1 h2 ⊢
 · simp [Instr.sliceBounds]
 · have b1 := aG (P := P) (w := w) k' b c .sliceAcap ⟨by omega, h2⟩
   simp [Instr.sliceBounds, b1]
 · have b1 := aG (P := P) (w := w) k a n .sliceB ⟨h0, h1⟩
   simp [Instr.sliceBounds, b1]
 · have b1 := aG (P := P) (w := w) k' b c .sliceAcap ⟨by omega, h2⟩
   have b2 := aG (P := P) (w := w) k a b.toNat .sliceB ⟨h0, by omega⟩
   simp [Instr.sliceBounds, b1, b2]
theorem vV {P : Program} {w : World} {n c : Nat} {l : Option Int} {h m : Int} {vl : Option Value} (hl : (l = none /\ vl = none) ∨ ∃ a k, l = some a /\ vl = some (.int k a)) (kh km : IntKind)
  (h0 : 0 <= z0 l) (h1 : z0 l <= h) (h2 : h <= m) (h3 : m <= c) : (Instr.sliceBounds true n c vl (some (.int kh h)) (some (.int km m))).run P w = .ok ((z0 l).toNat, h.toNat, m.toNat) w := by
 have b0 := aG (P := P) (w := w) km m c .slice3Acap ⟨by omega, h3⟩
 have b1 := aG (P := P) (w := w) kh h m.toNat .slice3B ⟨by omega, by omega⟩
 rcases hl with ⟨rfl, rfl⟩ | ⟨a, k, rfl, rfl⟩ <;> simp only [z0] at h0 h1 ⊢
 · simp [Instr.sliceBounds, b0, b1]
 · have b2 := aG (P := P) (w := w) k a h.toNat .slice3C ⟨h0, by omega⟩
   simp [Instr.sliceBounds, b0, b1, b2]
theorem yK {P : Program} {C : Ctx} {w : World} (t : TypeId) (x s : SV) (low high most : Option SV) (u : Value) (vl vh vm : Option Value) {r : T SV}
  (hx : rel C w x u) (hl : ∀ s, low = some s -> ∃ v, vl = some v /\ rel C w s v) (hl0 : low = none -> vl = none) (hh : ∀ s, high = some s -> ∃ v, vh = some v /\ rel C w s v) (hh0 : high = none -> vh = none)
  (hm : ∀ s, most = some s -> ∃ v, vm = some v /\ rel C w s v) (hm0 : most = none -> vm = none)
  (hr : cutV P t x low high most = some r) (hok : r.ok) (hv : r.val = some s) :
  ∃ y, (Instr.sliceAt t u vl vh vm).run P w = .ok y w /\ rel C w s y := by
 unfold cutV at hr
 split at hr
 · rename_i i sz o n c
   obtain ⟨b, m, cc, x, hν, rfl, hx0, hncc, hom, hc1, hc2⟩ := hx
   split at hr
   · rename_i e l h hu hbl hbh hbm
     have ql := bX hbl hl hl0
     have qh := bX hbh hh hh0
     have qm := bX hbm hm hm0
     have qm : vm = none := by
        rcases qm with ⟨_, h⟩ | ⟨_, _, h, _⟩
        · exact h
        · cases h
     subst qm
     split at hr
     · rename_i z hz
       injection hr with hr
       subst hr
       cases hb : (Nat.beq z sz && (decide (0 <= z0 l) && (decide (z0 l <= zn n h) && decide (zn n h <= n)))) with
       | false => rw [hb] at hok; simp [T.ok] at hok
       | true =>
         rw [hb] at hv
         simp only [cond_true, T.val, Option.some.injEq] at hv
         subst hv
         simp only [Bool.and_eq_true, decide_eq_true_eq] at hb
         obtain ⟨e1, b1, b2, b3⟩ := hb
         have e1 := Nat.eq_of_beq_eq_true e1
         subst e1
         have hrun := rD (P := P) (w := w) (n := n) (c := cc) ql qh b1 b2 (by omega)
         refine ⟨.slice (if cc = (z0 l).toNat then some ⟨b, x, none⟩ else (some (⟨b, x, none⟩ : Addr)).map (·.add ((z0 l).toNat * z))) ((zn n h).toNat - (z0 l).toNat) (cc - (z0 l).toNat), ?_, b, m, cc - (z0 l).toNat, if cc = (z0 l).toNat then x else x + (z0 l).toNat * z, hν, ?_, ?_, by omega, by omega, ?_, ?_⟩
         · simp only [Instr.sliceAt, Instr.slice, underlying, Sem.run_bind, Sem.run_pure, run_program, Result.andThen_ok, hu, hrun, aL hz]
         · split
           · rfl
           · simp [aZ]
         · by_cases hcl : cc = (z0 l).toNat
           · left; omega
           · right
             rw [if_neg hcl]
             rcases hx0 with h' | h'
             · omega
             · rw [h', Nat.add_mul]
         · intro k hk
           obtain ⟨k', hk', rfl⟩ := Option.map_eq_some_iff.1 hk
           rw [hc1 k' hk']
         · intro hk
           have := hc2 (Option.map_eq_none_iff.1 hk)
           omega
     · injection hr with hr; subst hr; simp [T.ok] at hok
   · rename_i e l h mo hu hbl hbh hbm
     have ql := bX hbl hl hl0
     have qh := bX hbh hh hh0
     have qm := bX hbm hm hm0
     obtain ⟨kh, rfl⟩ : ∃ k, vh = some (.int k h) := by
      rcases qh with ⟨h, _⟩ | ⟨a, k, h, e⟩
      · cases h
      · injection h with h; subst h; exact ⟨k, e⟩
     obtain ⟨km, rfl⟩ : ∃ k, vm = some (.int k mo) := by
      rcases qm with ⟨h, _⟩ | ⟨a, k, h, e⟩
      · cases h
      · injection h with h; subst h; exact ⟨k, e⟩
     split at hr
     · rename_i z hz
       injection hr with hr
       subst hr
       cases hb : (Nat.beq z sz && (decide (0 <= z0 l) && (decide (z0 l <= h) && (decide (h <= mo) && decide (mo <= n))))) with
       | false => rw [hb] at hok; simp [T.ok] at hok
       | true =>
         rw [hb] at hv
         simp only [cond_true, T.val, Option.some.injEq] at hv
         subst hv
         simp only [Bool.and_eq_true, decide_eq_true_eq] at hb
         obtain ⟨e1, b1, b2, b3, b4⟩ := hb
         have e1 := Nat.eq_of_beq_eq_true e1
         subst e1
         have hrun := vV (P := P) (w := w) (n := n) (c := cc) ql kh km b1 b2 b3 (by omega)
         refine ⟨.slice (if mo.toNat = (z0 l).toNat then some ⟨b, x, none⟩ else (some (⟨b, x, none⟩ : Addr)).map (·.add ((z0 l).toNat * z))) (h.toNat - (z0 l).toNat) (mo.toNat - (z0 l).toNat), ?_, b, m, mo.toNat - (z0 l).toNat, if mo.toNat = (z0 l).toNat then x else x + (z0 l).toNat * z, hν, ?_, ?_, by omega, by omega, ?_, ?_⟩
         · simp only [Instr.sliceAt, Instr.slice, underlying, Sem.run_bind, Sem.run_pure, run_program, Result.andThen_ok, hu, hrun, aL hz]
         · split
           · rfl
           · simp [aZ]
         · by_cases hcl : mo.toNat = (z0 l).toNat
           · left; omega
           · right
             rw [if_neg hcl]
             rcases hx0 with h' | h'
             · omega
             · rw [h', Nat.add_mul]
         · intro k hk
           injection hk with hk
         · intro hk; cases hk
     · injection hr with hr; subst hr; simp [T.ok] at hok
   · injection hr with hr; subst hr; simp [T.ok] at hok
 · rw [aj] at hx
   subst hx
   split at hr
   · rename_i e l h mo hu hbl hbh hbm
     have ql := bX hbl hl hl0
     have qh := bX hbh hh hh0
     have qm := bX hbm hm hm0
     split at hr
     · rename_i z hz
       injection hr with hr
       subst hr
       cases hb : (decide (z0 l = 0) && (decide (zn 0 h = 0) && (decide (zn 0 mo = 0) && (mo.isNone || h.isSome)))) with
       | false => rw [hb] at hok; simp [T.ok] at hok
       | true =>
         rw [hb] at hv
         simp only [cond_true, T.val, Option.some.injEq] at hv
         subst hv
         simp only [Bool.and_eq_true, decide_eq_true_eq, Bool.or_eq_true] at hb
         obtain ⟨b1, b2, b3, b4⟩ := hb
         refine ⟨.slice none 0 0, ?_, aj.2 rfl⟩
         rcases qm with ⟨rfl, rfl⟩ | ⟨a, k, rfl, rfl⟩
         · have hrun := rD (P := P) (w := w) (n := 0) (c := 0) ql qh (by omega) (by omega) (by omega)
           simp only [Instr.sliceAt, Instr.slice, underlying, Sem.run_bind, Sem.run_pure, run_program, Result.andThen_ok, hu, hrun, aL hz, b1, b2]
           rfl
         · rcases qh with ⟨rfl, rfl⟩ | ⟨a', k', rfl, rfl⟩
           · simp at b4
           · simp only [zn] at b2 b3
             subst b2; subst b3
             have hrun := vV (P := P) (w := w) (n := 0) (c := 0) ql k' k (by omega) (by omega) (Int.le_refl 0) (by omega)
             simp only [Instr.sliceAt, Instr.slice, underlying, Sem.run_bind, Sem.run_pure, run_program, Result.andThen_ok, hu, hrun, aL hz, b1]
             rfl
     · injection hr with hr; subst hr; simp [T.ok] at hok
   · injection hr with hr; subst hr; simp [T.ok] at hok
 · cases hr
end Rx
set_option linter.unusedSectionVars false
set_option linter.unusedSimpArgs false
set_option linter.unusedVariables false
namespace Rx
open Go
variable [Glob]
theorem Came.row {C : Ctx} {w w' : World} {old : Option Nat} {i b m n len sz : Nat} {t : TypeId} {tr : Tr SV} {ex : Bool} {cur : Array Value} (hw : WF C w) (hi : C.ν i = none)
  (hb : jU C w old (some b) w') (ha : Ag (fun c => ∃ j, old = some j /\ C.ρ j = some c) w w') (hh : w'.heap[b]? = some (.cells cur t (0, 0))) (hs : cur.size = m * sz)
  (hnm : n <= m) (hlm : len <= m) (hex : ex = true -> len = m)
  (hc : ∀ C' : Ctx, Step (fun j => j = i ∨ old = some j) C w C' w' -> ∀ k, k < len * sz -> ∃ u, cur[k]? = some u /\ u.oneCell' = true /\ Rx.rel C' w' (tr.get .junk k) u) :
  Came C w ⟨.sl i sz 0 n none, ⟨(old.toList.map fun j => (j, none)) ++ [(i, some (.vec t sz len tr ex))], [i]⟩⟩ (C.move old i (.slice (some ⟨b, 0, none⟩) m m) (some b)) w' (.slice (some ⟨b, 0, none⟩) n m) := by
 have hst := fP (v := .slice (some ⟨b, 0, none⟩) m m) hw hi hb ha
 have h := Came.move (v := .slice (some ⟨b, 0, none⟩) m m) (ob := .vec t sz len tr ex) hw hi hb ha ⟨b, m, iC, upd_same _ _ _, hlm, hex, cur, hh, hs, hc _ hst⟩
 exact ⟨⟨b, m, m, 0, upd_same _ _ _, rfl, .inr (by simp), hnm, by omega, fun k hk => (by cases hk), fun _ => (by omega)⟩, h.step, h.wf, h.new, h.obs⟩
theorem Came.Bo {C : Ctx} {w w' : World} {i m n len sz : Nat} {t : TypeId} {tr : Tr SV} {ex : Bool} {cur : Array Value} (hw : WF C w) (hi : C.ν i = none)
  (ha : Ag (fun _ => False) w w') (hlt : w.heap.size < w'.heap.size) (hh : w'.heap[w.heap.size]? = some (.cells cur t (0, 0))) (hs : cur.size = m * sz)
  (hnm : n <= m) (hlm : len <= m) (hex : ex = true -> len = m)
  (hc : ∀ k, k < len * sz -> ∃ u, cur[k]? = some u /\ u.oneCell' = true /\ Rx.rel C w (tr.get .junk k) u) :
  Came C w ⟨.sl i sz 0 n none, ⟨[(i, some (.vec t sz len tr ex))], [i]⟩⟩ (C.move none i (.slice (some ⟨w.heap.size, 0, none⟩) m m) (some w.heap.size)) w' (.slice (some ⟨w.heap.size, 0, none⟩) n m) := by
 have h := Came.row (old := none) (b := w.heap.size) (n := n) (len := len) (tr := tr) (ex := ex) hw hi (fun c hc => by injection hc with hc; subst hc; exact ⟨hlt, .inl (Nat.le_refl _)⟩) (ha.mono fun _ _ h => h.elim) hh hs hnm hlm hex fun C' hst k hk => by
  obtain ⟨u, h1, h2, h3⟩ := hc k hk
  exact ⟨u, h1, h2, aC hst _ _ h3⟩
 exact h
def eX (P : Program) (new : Nat) (t : TypeId) (len : Nat) (parts : List (Nat × SV)) : T Res :=
 match P.underlying t with
 | some (.slice e) =>
   match bg P e, zeroOf P e with
   | some sz, some zs =>
     bif (len * sz).ble 65535 && Nat.beq zs.length sz then
      match jY (fun i => some (i * sz, sz)) ((List.range (len * sz)).map fun k => zs.getD (k % sz) .junk) parts with
      | some out => bif Nat.beq out.length (len * sz) && out.all eB then .ret ⟨.sl new sz 0 len none, ⟨[(new, some (.vec e sz len (kM .nil 0 out) true))], [new]⟩⟩ else .fail
      | none => .fail
     else .fail
   | _, _ => .fail
 | _ => .fail
theorem su {P : Program} {C : Ctx} {w : World} (hw : WF C w) {new : Nat} (hnew : C.ν new = none) (t : TypeId) (len : Nat) (parts : List (Nat × SV)) (vparts : List (Nat × Value)) {r : Res}
  (h1 : vparts.map (·.1) = parts.map (·.1)) (h2 : relL C w (parts.map (·.2)) (vparts.map (·.2))) (hok : (eX P new t len parts).ok) (hv : (eX P new t len parts).val = some r) :
  ∃ v w' C', (Instr.buildSlice t len vparts.toArray).run P w = .ok v w' /\ Came C w r C' w' v := by
 unfold eX at hok hv
 split at hok
 · rename_i e hu
   simp only [hu] at hv
   split at hok
   · rename_i sz zs hz hzz
     simp only [hz, hzz] at hv
     cases hb : ((len * sz).ble 65535 && Nat.beq zs.length sz) with
     | false => rw [hb] at hok; simp [T.ok] at hok
     | true =>
       rw [hb, cond_true] at hok hv
       simp only [Bool.and_eq_true] at hb
       have e1 := Nat.le_of_ble_eq_true hb.1
       have e3 := Nat.eq_of_beq_eq_true hb.2
       split at hok
       · rename_i out hf
         simp only [hf] at hv
         cases hl : (Nat.beq out.length (len * sz) && out.all eB) with
         | false => rw [hl] at hok; simp [T.ok] at hok
         | true =>
           rw [hl, cond_true] at hv
           simp only [T.val, Option.some.injEq] at hv
           subst hv
           simp only [Bool.and_eq_true] at hl
           have hll := Nat.eq_of_beq_eq_true hl.1
           obtain ⟨z, hzr, hzl⟩ := fH hzz C w
           have hzlen := aQ hzl
           have hinit : relL C w ((List.range (len * sz)).map fun k => zs.getD (k % sz) .junk) ((List.range (len * sz)).map fun k => z.cells.toList.getD (k % sz) undef) := by
            rw [List.range_eq_range']
            refine kF _ _ _ _ fun j _ hj => ?_
            have hsz0 : 0 < sz := by
             rcases Nat.eq_zero_or_pos sz with h | h
             · subst h; simp at hj
             · exact h
            have hj : j % sz < zs.length := by rw [e3]; exact Nat.mod_lt _ hsz0
            obtain ⟨v, h3, h4⟩ := aY (j % sz) zs[j % sz] hzl (List.getElem?_eq_getElem hj)
            simpa [List.getD, h3, List.getElem?_eq_getElem hj] using h4
           obtain ⟨os, ho, hro⟩ := iw (fun i => some (i * sz, sz)) parts vparts _ _ out hinit h1 h2 hf
           have hol := aQ hro
           have hones := xB hl.2 hro
           have hrun : (Instr.buildSlice t len vparts.toArray).run P w = .ok (.slice (some ⟨w.heap.size, 0, none⟩) len len) (w.alloc (.cells os.toArray e)) := by
            have hn1 : ¬ (len * sz > 2 ^ 24) := by omega
            by_cases hn2 : len * sz = 0
            · have hr0 : (List.range (len * sz)).map (fun k => z.cells.toList.getD (k % sz) undef) = [] := by rw [hn2]; rfl
              rw [hr0] at ho
              simp only [Instr.buildSlice, Sem.run_bind, underlying, run_program, Result.andThen_ok, hu, Sem.run_pure, aL hz, hn2, if_true]
              rw [if_neg (by decide)]
              simp only [Sem.run_pure, Result.andThen_ok, Sem.run_bind]
              simp [ho, newRow, Array.range_zero', Result.andThen]
            · have hsz0 : 0 < sz := by
               rcases Nat.eq_zero_or_pos sz with h | h
               · subst h; simp at hn2
               · exact h
              have ecells : (Array.range (len * sz)).map (fun k => z.cells[k % z.cells.size]!) = ((List.range (len * sz)).map fun k => z.cells.toList.getD (k % sz) undef).toArray := by
               apply Array.ext'
               simp only [Array.toList_map, Array.toList_range]
               refine List.map_congr_left fun k _ => ?_
               have : z.cells.size = sz := by simpa [e3] using hzlen
               rw [this]
               have hk : k % sz < z.cells.size := by rw [this]; exact Nat.mod_lt _ hsz0
               simp [List.getD, hk]
              simp only [Instr.buildSlice, Sem.run_bind, underlying, run_program, Result.andThen_ok, hu, Sem.run_pure, aL hz, hn1, hn2, if_false, hzr, ecells, ho]
              simp [newRow]
           refine ⟨_, _, _, hrun, Came.Bo hw hnew (gZ w _) (by simp) (heap_alloc_new w _) (by simp; omega) (Nat.le_refl _) (Nat.le_refl _) (fun _ => rfl) fun k hk => ?_⟩
           have hko : k < out.length := by omega
           have hk1 : out[k]? = some out[k] := List.getElem?_eq_getElem hko
           obtain ⟨v, hv1, hv2⟩ := aY k _ hro hk1
           refine ⟨v, by simpa using hv1, hones v (List.mem_of_getElem? hv1), ?_⟩
           rw [gW out .nil 0 k (by omega), if_pos (by omega), List.getD_eq_getElem?_getD, Nat.sub_zero, hk1]
           exact hv2
       · simp [T.ok] at hok
   · simp [T.ok] at hok
 · simp [T.ok] at hok
def zF (P : Program) (new : Nat) (t : TypeId) (l c : SV) : T Res :=
 match P.underlying t, FX l, FX c with
 | some (.slice e), some l, some c => match wN P e, zeroOf P e with
   | some (sz, by'), some zs => bif decide (0 <= l) && (decide (l <= c) && (Nat.ble (c.toNat * by') 16777216 && (Nat.ble (c.toNat * sz) 65535 && (Nat.beq zs.length sz && zs.all eB)))) then
     .ret ⟨.sl new sz 0 l.toNat none, ⟨[(new, some (.vec e sz c.toNat (kM .nil 0 ((List.range (c.toNat * sz)).map fun k => zs.getD (k % sz) .junk)) true))], [new]⟩⟩
     else .fail
   | _, _ => .fail
 | _, _, _ => .fail
theorem I6 {P : Program} {C : Ctx} {w : World} (hw : WF C w) {new : Nat} (hnew : C.ν new = none) (t : TypeId) (l c : SV) (u v : Value) {r : Res}
  (hl : rel C w l u) (hc : rel C w c v) (hok : (zF P new t l c).ok) (hv : (zF P new t l c).val = some r) :
  ∃ y w' C', (Instr.makeSlice t u v).run P w = .ok y w' /\ Came C w r C' w' y := by
 unfold zF at hok hv
 split at hok
 · rename_i e l c hu hli hci
   simp only [hu, hli, hci] at hv
   split at hok
   · rename_i sz by' zs hrt hzz
     simp only [hrt, hzz] at hv
     cases hb : (decide (0 <= l) && (decide (l <= c) && (Nat.ble (c.toNat * by') 16777216 && (Nat.ble (c.toNat * sz) 65535 && (Nat.beq zs.length sz && zs.all eB))))) with
     | false => rw [hb] at hok; simp [T.ok] at hok
     | true =>
       rw [hb] at hv
       simp only [cond_true, T.val, Option.some.injEq] at hv
       subst hv
       simp only [Bool.and_eq_true, decide_eq_true_eq] at hb
       obtain ⟨b1, b2, b3, b4, b5, b6⟩ := hb
       have b3 := Nat.le_of_ble_eq_true b3
       have b4 := Nat.le_of_ble_eq_true b4
       have b5 := Nat.eq_of_beq_eq_true b5
       obtain ⟨i, z, hi, hz, hsz, hbb, hzs, hsz0, hby0⟩ := iQ hrt
       subst hsz; subst hbb
       obtain ⟨kl, rfl⟩ := iy hli hl
       obtain ⟨kc, rfl⟩ := iy hci hc
       obtain ⟨z', hzr, hzl⟩ := fH hzz C w
       have ez : z' = z := by
        simp [zeroValue, typeInfo, hi, hz] at hzr
        exact hzr.symm
       subst ez
       have hones := xB b6 hzl
       have hcn : c.toNat <= 16777216 := Nat.le_trans (Nat.le_mul_of_pos_right _ hby0) b3
       have hcb : (i.bytes : Int) * c <= 281474976710656 := by
        have h1 : ((i.bytes * c.toNat : Nat) : Int) <= 281474976710656 := by rw [Nat.mul_comm]; omega
        rw [Int.natCast_mul] at h1
        rwa [Int.toNat_of_nonneg (by omega)] at h1
       have hsz2 : c.toNat * i.size <= 16777216 := by omega
       have hrun := run_makeSlice (P := P) w t e i z' hu hi hz kl kc l c b1 b2 hsz2 hcb (by omega)
       refine ⟨_, _, _, hrun, Came.Bo hw hnew (gZ w _) (by simp) (heap_alloc_new w _) (by simp [madeCells]) (by omega) (Nat.le_refl _) (fun _ => rfl) fun k hk => ?_⟩
       have hj : k % i.size < zs.length := by rw [b5]; exact Nat.mod_lt _ hsz0
       obtain ⟨v, h3, h4⟩ := aY (k % i.size) zs[k % i.size] hzl (List.getElem?_eq_getElem hj)
       have h3' : z'.cells[k % i.size]? = some v := by simpa using h3
       refine ⟨v, ?_, hones v (List.mem_of_getElem? h3), ?_⟩
       · simp only [madeCells, Array.getElem?_map, Array.getElem?_range, hk, if_true, Option.map_some, hzs]
         rw [getElem!_def, h3']
       · rw [gW _ .nil 0 k (by simp; omega), if_pos (by simp; omega), List.getD_eq_getElem?_getD, Nat.sub_zero, List.getElem?_map, List.getElem?_range hk]
         simpa [List.getD, List.getElem?_eq_getElem hj] using h4
   · simp [T.ok] at hok
 · simp [T.ok] at hok
end Rx
