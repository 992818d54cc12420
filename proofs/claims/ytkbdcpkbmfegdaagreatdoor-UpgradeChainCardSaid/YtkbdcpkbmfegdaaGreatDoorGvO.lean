/- What (*maker).find tells. -/
import Derived.Test.YtkbdcpkbmfegdaaGreatDoorGvN
import Derived.Test.YtkbdcpkbmfegdaaGreatDoorRxD1
set_option linter.unusedSimpArgs false
set_option linter.unusedVariables false
open Rx Go
namespace Gv
open Rd
abbrev I (n : Int) : SV := .ki .i64 n
abbrev S (s : ByteArray) : SV := .dt (.cell (.string s))
abbrev J : SV := .junk
abbrev C (n : Int) : SV := .dt (.cell (.int .i64 n))
abbrev D (d : Dt) : SV := .dt d
abbrev V (i z o n : Nat) : SV := .sl i z o n none
abbrev aY : SV := .dt (.cell (.slice none 0 0))
abbrev Zv : SV := .dt (.cell (.pointer none))
def s0 : ByteArray := ⟨#[]⟩
def Lj (g : Nat -> Option Ob) : List SV -> Option (List (Nat × ByteArray))
 | [] => some []
 | v :: l => match v with
   | .ptr i 0 => match g i with
     | some (.cells _ (x :: _)) => match pG x, Lj g l with
       | some s, some r => some ((i, s) :: r)
       | _, _ => none
     | _ => none
   | _ => none
noncomputable def Fg (s : ByteArray) : List (Nat × ByteArray) -> Option Nat -> Option Nat
 | [], a => a
 | p :: l, a => Fg s l (bif K5 p.2 s then some p.1 else a)
noncomputable def acn (o : Option Nat) : T Res := match o with
 | some i => .ret ⟨.ptr i 0, .none⟩
 | none => .ret ⟨Zv, .none⟩
noncomputable def Zq (g : Nat -> Option Ob) (s : ByteArray) (v : SV) : T Res := match v with
 | .sl j z a n _ => match g j with
   | some (.vec _ z' len tr _) => bif Nat.beq z 1 && (Nat.beq z' 1 && (Nat.ble (a + n) len && Nat.ble n 1000)) then (match Lj g (oP tr n a) with
     | some l => acn (Fg s l none)
     | none => .fail) else .fail
   | _ => .fail
 | .dt (.cell (.slice none 0 0)) => .ret ⟨Zv, .none⟩
 | _ => .fail
noncomputable def Ol (al : List SV) (g : Nat -> Option Ob) : T Res := match al with
 | [.ptr i o, x] => match pG x with
   | some s => match g i with
     | some (.cells _ cs) => match cs[o + 6]? with
       | some v => Zq g s v
       | none => .fail
     | _ => .fail
   | none => .fail
 | _ => .fail
theorem QN (s : ByteArray) : K5 s s = true := by
 have : ∀ l : List UInt8, byE l l = true := by
  intro l
  induction l with
  | nil => rfl
  | cons x l ih =>
    show aP (Nat.beq x.toNat x.toNat) (byE l l) = true
    rw [iI, ih, Nat.beq_refl]; rfl
 exact this _
theorem U3 {s t : ByteArray} : K5 s t = true ↔ s = t := ⟨I7, fun h => h ▸ QN s⟩
theorem Cx (s : ByteArray) : ∀ (l : List (Nat × ByteArray)) (a : Option Nat),
  ((∀ p ∈ l, p.2 ≠ s) -> Fg s l a = a) /\ ∀ k i t, l[k]? = some (i, t) -> t = s -> (∀ (j : Nat) (p : Nat × ByteArray), k < j -> l[j]? = some p -> p.2 ≠ s) -> Fg s l a = some i
 | [], a => ⟨fun _ => rfl, fun k i t h => by simp at h⟩
 | p :: l, a => by
   obtain ⟨h1, h2⟩ := Cx s l (bif K5 p.2 s then some p.1 else a)
   refine ⟨fun h => ?_, fun k i t h ht hl => ?_⟩
   · show Fg s l _ = a
     rw [h1 fun q hq => h q (by simp [hq])]
     cases hb : K5 p.2 s with
     | false => rfl
     | true => exact absurd (I7 hb) (h p (by simp))
   · show Fg s l _ = some i
     cases k with
     | zero =>
       simp at h
       subst h
       rw [h1 fun q hq => by
        obtain ⟨j, hj⟩ := List.mem_iff_getElem?.1 hq
        exact hl (j + 1) q (by omega) (by simpa using hj)]
       have : K5 t s = true := U3.2 ht
       rw [this]; rfl
     | succ k => exact h2 k i t (by simpa using h) ht fun j p hj hp => hl (j + 1) p (by omega) (by simpa using hp)
theorem Gl {g : Nat -> Option Ob} : ∀ {l : List SV} {r : List (Nat × ByteArray)}, Lj g l = some r -> l.length = r.length /\ ∀ (j : Nat) v, l[j]? = some v -> ∃ i t cs x s, v = .ptr i 0 /\ g i = some (.cells t (x :: cs)) /\ pG x = some s /\ r[j]? = some (i, s)
 | [], r, h => by
   simp only [Lj, Option.some.injEq] at h
   subst h
   exact ⟨rfl, fun j v hv => by simp at hv⟩
 | v :: l, r, h => by
   unfold Lj at h
   split at h
   · rename_i i
     split at h
     · rename_i t x cs hg
       split at h
       · rename_i s r' hs hr
         injection h with h
         subst h
         obtain ⟨h1, h2⟩ := Gl hr
         refine ⟨by simp [h1], fun j v hv => ?_⟩
         cases j with
         | zero => simp at hv; subst hv; exact ⟨i, t, cs, x, s, rfl, hg, hs, rfl⟩
         | succ j =>
           obtain ⟨i', t', cs', x', s', e1, e2, e3, e4⟩ := h2 j v (by simpa using hv)
           exact ⟨i', t', cs', x', s', e1, e2, e3, by simpa using e4⟩
       · cases h
     · cases h
   · cases h
theorem bG (tr : Tr SV) : ∀ (n a : Nat), (eY tr a n).length = n
 | 0, _ => rfl
 | n + 1, a => by simp only [eY, List.length_cons, bG tr n]
theorem DC (tr : Tr SV) : ∀ (n a k : Nat), k < n -> (eY tr a n)[k]? = some (tr.get .junk (a + k))
 | 0, _, _, h => by omega
 | n + 1, a, 0, _ => rfl
 | n + 1, a, k + 1, h => by
   simp only [eY, List.getElem?_cons_succ]
   rw [DC tr n (a + 1) k (by omega), show a + 1 + k = a + (k + 1) by omega]
theorem adw : callable prog 137 = true := by kernel_rfl
theorem Bu (bm om : Nat) (nm : ByteArray) (a : Option Addr) (len cap : Nat) (q : Nat -> Nat) (nz : Nat -> ByteArray) (hreach : len * 8 <= 140737488351232)
  (w : World) (hm : w.cell? ⟨bm, om + 6, none⟩ = some (.slice a len cap)) (hI : Go.Proofs.Tryz.Vars w.heap.size w (.slice a len cap) q len) (hq : ∀ j, j < len -> w.cell? ⟨q j, 0, none⟩ = some (.string (nz j))) :
  Calls prog 137 #[.pointer (some ⟨bm, om, none⟩), .string nm] w fun e W' =>
   ((e = .returned (.pointer none) /\ ∀ j, j < len -> nz j ≠ nm) ∨ (∃ k : Nat, k < len /\ e = .returned (.pointer (some ⟨q k, 0, none⟩)) /\ nz k = nm /\ ∀ j, k < j -> j < len -> nz j ≠ nm)) /\ RowKit.Below w.heap.size w W' :=
 callsIn_wide.1 (Go.Proofs.Tryz.Wh Fence.wide 3 trivial trivial trivial rfl (Nat.le_refl _) bm om nm a len cap q nz hreach w hm hI hq)
theorem Ma : dW prog 137 (mkS fun al g _ => Ol al g) := by
 intro C w g al vs new post hw hg hnew hr hh
 replace hh : (Ol al g).holds post := hh
 unfold Ol at hh
 split at hh
 · rename_i i o x
   split at hh
   · rename_i s hs
     split at hh
     · rename_i t cs hgi
       split at hh
       · rename_i v hv
         refine ⟨adw, ?_⟩
         obtain ⟨u, _, rfl, ⟨bm, hbm, rfl⟩, y, _, rfl, hx, rfl⟩ := hr
         have hy := lG hs hx
         subst hy
         obtain ⟨b', h1, h2, us, h3, h4⟩ := hg i _ hgi
         rw [hbm] at h2
         injection h2 with h2; injection h2 with h2; injection h2 with h2; injection h2 with h2
         subst h2
         obtain ⟨u, hu, hru⟩ := bA (o + 6) v h4 hv
         have hcell : w.cell? ⟨bm, o + 6, none⟩ = some u := by
          rw [Lib.cell_of_heap h3]
          simpa using hu
         have fin : ∀ (e : Ending) (W' : World) (sv : SV) (z : Value), RowKit.Below w.heap.size w W' -> e = .returned z -> post ⟨sv, .none⟩ -> rel C w sv z -> ∃ v C' r, e = .returned v /\ post r /\ Came C w r C' W' v := by
          intro e W' sv z hb he hp hz
          have hst : Step (fun _ => False) C w C W' := iA (vo hb)
          exact ⟨z, C, _, he, hp, aF hst _ _ hz, hst.mono fun _ h => h.elim, jy hw hst, fun k hk => .inl hk, fun k ob hk => by cases hk⟩
         unfold Zq at hh
         split at hh
         · rename_i j z a n c
           split at hh
           · rename_i t' z' len tr ex hgj
             cases hb : (Nat.beq z 1 && (Nat.beq z' 1 && (Nat.ble (a + n) len && Nat.ble n 1000))) with
             | false => rw [hb] at hh; exact hh.elim
             | true =>
               rw [hb, cond_true] at hh
               simp only [Bool.and_eq_true] at hb
               obtain ⟨q1, q2, q3, q4⟩ := hb
               have q1 := Nat.eq_of_beq_eq_true q1
               have q2 := Nat.eq_of_beq_eq_true q2
               have q3 := Nat.le_of_ble_eq_true q3
               have q4 := Nat.le_of_ble_eq_true q4
               subst q1 q2
               split at hh
               · rename_i l hl
                 obtain ⟨b, m, cc, xx, k1, rfl, k2, k3, k4, _⟩ := hru
                 obtain ⟨b2, m2, e1, e2, e3, e4, cur, e5, e6, e7⟩ := hg j _ hgj
                 rw [k1] at e2
                 injection e2 with e2; injection e2 with e2 e2'; injection e2 with e2; injection e2 with e2
                 subst e2 e2'
                 rw [oQ] at hl
                 obtain ⟨l1, l2⟩ := Gl hl
                 have htl := bG tr n a
                 have htg : ∀ k, k < n -> (eY tr a n)[k]? = some (tr.get .junk (a + k)) := fun k hk => DC tr n a k hk
                 rw [htl] at l1
                 have key : ∀ k, k < n -> ∃ i s bq, l[k]? = some (i, s) /\ C.ν i = some (.pointer (some ⟨bq, 0, none⟩)) /\ w.cell? ⟨b, xx + k, none⟩ = some (.pointer (some ⟨bq, 0, none⟩)) /\ w.cell? ⟨bq, 0, none⟩ = some (.string s) := by
                  intro k hk
                  obtain ⟨i', t2, cs2, x2, s2, f1, f2, f3, f4⟩ := l2 k _ (htg k hk)
                  obtain ⟨u2, g1, g2, g3⟩ := e7 (a + k) (by omega)
                  rw [f1] at g3
                  obtain ⟨bq, g4, rfl⟩ := g3
                  obtain ⟨b3, p1, p2, us3, p3, p4⟩ := hg i' _ f2
                  rw [g4] at p2
                  injection p2 with p2; injection p2 with p2; injection p2 with p2; injection p2 with p2
                  subst p2
                  obtain ⟨y3, r3, rfl, p5, _⟩ := p4
                  have := lG f3 p5
                  subst this
                  refine ⟨i', s2, bq, f4, g4, ?_, by rw [Lib.cell_of_heap p3]; rfl⟩
                  have hxx : xx = a := by
                   rcases k2 with k2 | k2
                   · omega
                   · omega
                  rw [hxx, Lib.cell_of_heap e5]
                  exact g1
                 let q : Nat -> Nat := fun k => match (l[k]?).bind fun p => C.ν p.1 with
                  | some (.pointer (some ad)) => ad.block
                  | _ => 0
                 let nz : Nat -> ByteArray := fun k => ((l[k]?).map (·.2)).getD s0
                 have hqk : ∀ k, k < n -> ∃ i s, l[k]? = some (i, s) /\ C.ν i = some (.pointer (some ⟨q k, 0, none⟩)) /\ w.cell? ⟨b, xx + k, none⟩ = some (.pointer (some ⟨q k, 0, none⟩)) /\ w.cell? ⟨q k, 0, none⟩ = some (.string (nz k)) /\ nz k = s := by
                  intro k hk
                  obtain ⟨i', s2, bq, f1, f2, f3, f4⟩ := key k hk
                  have hq : q k = bq := by simp only [q, f1, Option.bind_some, f2]
                  have hz : nz k = s2 := by simp only [nz, f1, Option.map_some, Option.getD_some]
                  rw [hq, hz]
                  exact ⟨i', s2, f1, f2, f3, f4, rfl⟩
                 have hblt : b < w.heap.size := (Array.getElem?_eq_some_iff.1 e5).1
                 refine (Bu bm o s (some ⟨b, xx, none⟩) n cc q nz (by omega) w hcell (.inr ⟨b, xx, cc, rfl, hblt, fun k hk => by
                  obtain ⟨i', s2, f1, f2, f3, f4, f5⟩ := hqk k hk
                  exact f3⟩) fun k hk => by
                  obtain ⟨i', s2, f1, f2, f3, f4, f5⟩ := hqk k hk
                  exact f4).mono ?_
                 rintro e W' ⟨he, hbel⟩
                 obtain ⟨p1, p2⟩ := Cx s l none
                 rcases he with ⟨he, hne⟩ | ⟨k, hk, he, hke, hla⟩
                 · rw [p1 fun p hp => by
                    obtain ⟨k, hk⟩ := List.mem_iff_getElem?.1 hp
                    have hkn : k < n := by have := (List.getElem?_eq_some_iff.1 hk).1; omega
                    obtain ⟨i', s2, f1, f2, f3, f4, f5⟩ := hqk k hkn
                    have := hne k hkn
                    rw [hk] at f1; injection f1 with f1
                    rw [f1]; rw [f5] at this; exact this] at hh
                   exact fin e W' _ _ hbel he hh (ah.2 rfl)
                 · obtain ⟨i', s2, f1, f2, f3, f4, f5⟩ := hqk k hk
                   rw [p2 k i' s2 f1 (by rw [← f5]; exact hke) fun j p hj hp => by
                    have hjn : j < n := by have := (List.getElem?_eq_some_iff.1 hp).1; omega
                    obtain ⟨i3, s3, d1, d2, d3, d4, d5⟩ := hqk j hjn
                    have := hla j hj hjn
                    rw [hp] at d1; injection d1 with d1
                    rw [d1]; rw [d5] at this; exact this] at hh
                   exact fin e W' _ _ hbel he hh ⟨q k, f2, rfl⟩
               · exact hh.elim
           · exact hh.elim
         · have hu' : u = .slice none 0 0 := ah.1 hru
           subst hu'
           refine (Bu bm o s none 0 0 (fun _ => 0) (fun _ => s0) (by omega) w hcell (.inl ⟨rfl, rfl⟩) fun k hk => by omega).mono ?_
           rintro e W' ⟨he, hbel⟩
           rcases he with ⟨he, _⟩ | ⟨k, hk, _⟩
           · exact fin e W' _ _ hbel he hh (ah.2 rfl)
           · omega
         · exact hh.elim
       · exact hh.elim
     · exact hh.elim
   · exact hh.elim
 · exact hh.elim
end Gv
set_option linter.unusedSimpArgs false
set_option linter.unusedVariables false
open Rx Go
namespace Gv
open Rd
noncomputable def half (l : List SV) : Bool -> List SV := @List.rec SV (fun _ => Bool -> List SV) (fun _ => []) (fun x _ ih b => @Bool.rec (fun _ => List SV) (ih true) (x :: ih false) b) l
noncomputable def tL (n : Nat) : List SV -> Tr SV := @Nat.rec (fun _ => List SV -> Tr SV) (fun _ => .nil) (fun _ ih l => @List.rec SV (fun _ => Tr SV) .nil (fun x xs _ => .node (ih (half xs true)) x (ih (half xs false))) l) n
noncomputable abbrev vc (t : TypeId) (z n : Nat) (l : List SV) (ex : Bool) : Ob := .vec t z n (tL (nat_lit 16) l) ex
abbrev TL := List (Nat × List (Nat × TE))
noncomputable def ZK (tl : TL) (f : Nat) (o : Option Summ) : Option Summ := @List.rec (Nat × List (Nat × TE)) (fun _ => Option Summ) o (fun x _ ih => @Bool.rec (fun _ => Option Summ) ih (some (Vl x.2)) (Nat.beq x.1 f)) tl
noncomputable def F1 (tbl : List (Nat × List Dx)) (f : FuncId) : Option Summ := @Bool.rec (fun _ => Option Summ) (F tbl f) (some (mkS fun al g _ => Ol al g)) (Nat.beq f 137)
theorem abY (tbl : List (Nat × List Dx)) (f : FuncId) (s : Summ) (h : F1 tbl f = some s) : dW prog f s := by
 unfold F1 at h
 cases hb : Nat.beq f 137 with
 | false => rw [hb] at h; exact ads tbl f s h
 | true =>
   rw [hb] at h
   injection h with h
   subst h
   have := Nat.eq_of_beq_eq_true hb
   subst this
   exact Ma
noncomputable def FT (tbl : List (Nat × List Dx)) (tl : TL) (f : FuncId) : Option Summ := ZK tl f (F1 tbl f)
def TOk (tl : TL) : Prop := ∀ x ∈ tl, ∀ y ∈ x.2, aj prog x.1 y.2
theorem aA : TOk [] := fun _ h => (by cases h)
theorem Vi {x : Nat × List (Nat × TE)} {l : TL} (h : ∀ y ∈ x.2, aj prog x.1 y.2) (hl : TOk l) : TOk (x :: l) := fun y hy => by
 rcases List.mem_cons.1 hy with rfl | hy
 · exact h
 · exact hl y hy
theorem aK {f : Nat} : ∀ y ∈ ([] : List (Nat × TE)), aj prog f y.2 := fun _ h => (by cases h)
theorem Y6 {f : Nat} {x : Nat × TE} {l : List (Nat × TE)} (h : aj prog f x.2) (hl : ∀ y ∈ l, aj prog f y.2) : ∀ y ∈ x :: l, aj prog f y.2 := fun y hy => by
 rcases List.mem_cons.1 hy with rfl | hy
 · exact h
 · exact hl y hy
theorem Rz (tbl : List (Nat × List Dx)) : ∀ {tl : TL}, TOk tl -> ∀ f s, FT tbl tl f = some s -> dW prog f s
 | [], _, f, s, h => abY tbl f s h
 | x :: tl, ht, f, s, h => by
   have h : (@Bool.rec (fun _ => Option Summ) (ZK tl f (F1 tbl f)) (some (Vl x.2)) (Nat.beq x.1 f)) = some s := h
   cases hb : Nat.beq x.1 f with
   | true =>
     rw [hb] at h
     injection h with h
     subst h
     have := Nat.eq_of_beq_eq_true hb
     subst this
     exact Lh fun y hy => ht x (by simp) y hy
   | false =>
     rw [hb] at h
     exact Rz tbl (fun y hy => ht y (by simp [hy])) f s h
noncomputable def Zn (tbl : List (Nat × List Dx)) (tl : TL) : Deps := ⟨prog, FT tbl tl, win, 4000, fl⟩
theorem SI (tbl : List (Nat × List Dx)) {tl : TL} (h : TOk tl) : (Zn tbl tl).Ok := ⟨Rz tbl h, mixed⟩
noncomputable def ac9 (tbl : List (Nat × List Dx)) (tl : TL) (f : FuncId) (e : TE) : R := zO prog (FT tbl tl) fl win 4000 100 16000000 e.m f e.al (obT e.obs (nat_lit 0)) e.m (JE e)
theorem tell {tbl : List (Nat × List Dx)} {tl : TL} {f : FuncId} {e : TE} (ht : TOk tl) (hok : e.ok = true) (hm : Nat.ble e.m 16000000 = true) (h : (ac9 tbl tl f e).holds fun y => y.1 = .kb true) : aj prog f e :=
 zD (D := Zn tbl tl) (SI tbl ht) hok hm (by decide) h
theorem tk {f : Nat} {l : List (Nat × TE)} {tl : TL} (h : ∀ y ∈ l, aj prog f y.2) (hl : TOk tl) : TOk ((f, l) :: tl) := Vi h hl
theorem tc {f : Nat} {e : TE} {l : List (Nat × TE)} (k : Nat) (h : aj prog f e) (hl : ∀ y ∈ l, aj prog f y.2) : ∀ y ∈ (k, e) :: l, aj prog f y.2 := Y6 h hl
theorem iD {tl : TL} {f : FuncId} {e : TE} (tbl : List (Nat × List Dx)) (ht : TOk tl) (hok : e.ok = true) (hm : Nat.ble e.m 16000000 = true) {q : Prop} (hq : q) (h : q = (ac9 tbl tl f e).holds fun y => y.1 = .kb true) : aj prog f e :=
 tell ht hok hm (h ▸ hq)
def rp (p : Prop) : Nat -> Prop -> Prop
 | 0, q => q
 | k + 1, q => p /\ rp p k q
theorem bC {p q : Prop} (h : p) : ∀ k : Nat, q -> rp p k q
 | 0, hq => hq
 | k + 1, hq => ⟨h, bC h k hq⟩
abbrev qt : Prop := (SV.kb true : SV) = .kb true
abbrev en {α : Type} (x : α) : Prop := x = x
theorem adj (b : ByteArray) : b.size = b.data.toList.length := rfl
theorem WM {n : Int} (h0 : 0 <= n) (h1 : n < 1000) : 0 < (aL n).size := by
 obtain ⟨b, t, e, _⟩ := Cv (Cq h0 h1).1
 rw [adj, e, List.length_cons]
 exact Nat.succ_pos _
theorem abO {n : Nat} {f : Nat -> Nat -> Dt} {t : List UInt8} {E : ByteArray} (h : Bld n f t) (he : E.data.toList = t) : E = ByteArray.mk (pF n f).toArray := by
 rw [VJ h, ← he]
end Gv
set_option linter.unusedSimpArgs false
set_option linter.unusedVariables false
open Rx Go
namespace Gv
open Rd
abbrev XL := List (Nat × Summ)
noncomputable def ZN (xl : XL) (f : Nat) (o : Option Summ) : Option Summ := @List.rec (Nat × Summ) (fun _ => Option Summ) o (fun x _ ih => @Bool.rec (fun _ => Option Summ) ih (some x.2) (Nat.beq x.1 f)) xl
noncomputable def FM (tbl : List (Nat × List Dx)) (xl : XL) (tl : TL) (f : FuncId) : Option Summ := ZN xl f (FT tbl tl f)
def MOk (xl : XL) : Prop := ∀ x ∈ xl, dW prog x.1 x.2
theorem aC : MOk [] := fun _ h => (by cases h)
theorem Ci {f : Nat} {s : Summ} {xl : XL} (h : dW prog f s) (hl : MOk xl) : MOk ((f, s) :: xl) := fun x hx => by
 rcases List.mem_cons.1 hx with rfl | hx
 · exact h
 · exact hl x hx
theorem Zb (tbl : List (Nat × List Dx)) {tl : TL} (ht : TOk tl) : ∀ {xl : XL}, MOk xl -> ∀ f s, FM tbl xl tl f = some s -> dW prog f s
 | [], _, f, s, h => Rz tbl ht f s h
 | x :: xl, hm, f, s, h => by
   have h : (@Bool.rec (fun _ => Option Summ) (ZN xl f (FT tbl tl f)) (some x.2) (Nat.beq x.1 f)) = some s := h
   cases hb : Nat.beq x.1 f with
   | true =>
     rw [hb] at h
     injection h with h
     subst h
     have := Nat.eq_of_beq_eq_true hb
     subst this
     exact hm x (by simp)
   | false =>
     rw [hb] at h
     exact Zb tbl ht (fun y hy => hm y (by simp [hy])) f s h
noncomputable def Ew (tbl : List (Nat × List Dx)) (ml : XL) (tl : TL) : Deps := ⟨prog, FM tbl ml tl, win, 4000, fl⟩
theorem qd (tbl : List (Nat × List Dx)) {ml : XL} {tl : TL} (hm : MOk ml) (h : TOk tl) : (Ew tbl ml tl).Ok := ⟨Zb tbl h hm, mixed⟩
noncomputable def zm (tbl : List (Nat × List Dx)) (ml : XL) (tl : TL) (f : FuncId) (e : TE) : R := zO prog (FM tbl ml tl) fl win 4000 100 16000000 e.m f e.al (obT e.obs (nat_lit 0)) e.m (JE e)
theorem jQ {ml : XL} {tl : TL} {f : FuncId} {e : TE} (tbl : List (Nat × List Dx)) (hm : MOk ml) (ht : TOk tl) (hok : e.ok = true) (hb : Nat.ble e.m 16000000 = true) {q : Prop} (hq : q) (h : q = (zm tbl ml tl f e).holds fun y => y.1 = .kb true) : aj prog f e :=
 zD (D := Ew tbl ml tl) (qd tbl hm ht) hok hb (by decide) (h ▸ hq)
set_option maxRecDepth 100000 in
theorem OM {e : ME} {n : Nat} (h : e.al.length = n) : ∀ x ∈ [e], x.al.length = n := fun x hx => by
 simp only [List.mem_cons, List.not_mem_nil, or_false] at hx
 subst hx
 exact h
end Gv
set_option linter.unusedSimpArgs false
set_option linter.unusedVariables false
open Rx Go
namespace Gv
open Rd
noncomputable def Nv (es : List TE) (al : List SV) (g : Nat -> Option Ob) (new : Nat) (alt : T Res) : T Res := @List.rec TE (fun _ => T Res) alt (fun x _ ih => zB x al g new ih) es
noncomputable def Gf (es : List TE) : Summ := ⟨false, fun _ _ _ => [], fun al g new _ => Nv es (uq al) g new .fail⟩
theorem xg {P : Program} {f : FuncId} {C : Ctx} {w : World} {g : Nat -> Option Ob} {al : List SV} {vs : List Value} {new : Nat} {alt : T Res} {post : Res -> Prop} (hw : WF C w) (hg : ObsOk C w g)
  (hnew : ∀ r, post r -> ∀ i ∈ r.eff.new, C.ν i = none) (hr : relL C w al vs) : ∀ (es : List TE), (∀ x ∈ es, aj P f x) -> (Nv es al g new alt).holds post ->
  (callable P f = true /\ Calls P f vs.toArray w fun x w' => ∃ v C' r, x = .returned v /\ post r /\ Came C w r C' w' v) ∨ alt.holds post
 | [], _, h => .inr h
 | x :: es, he, h => by
   rcases rQ (he x (by simp)) hw hg hnew hr (show (zB x al g new (Nv es al g new alt)).holds post from h) with h | h
   · exact .inl h
   · exact xg (alt := alt) hw hg hnew hr es (fun y hy => he y (by simp [hy])) h
theorem Ld {f : FuncId} {es : List TE} (he : ∀ x ∈ es, aj prog f x) : dW prog f (Gf es) := by
 intro C w g al vs new post hw hg hnew hr h
 rcases xg hw hg hnew (kK hr) es he h with h | h
 · exact h
 · exact h.elim
theorem eX {f : Nat} : ∀ y ∈ ([] : List TE), aj prog f y := fun _ h => (by cases h)
theorem ta {f : Nat} {x : TE} {l : List TE} (h : aj prog f x) (hl : ∀ y ∈ l, aj prog f y) : ∀ y ∈ x :: l, aj prog f y := fun y hy => by
 rcases List.mem_cons.1 hy with rfl | hy
 · exact h
 · exact hl y hy
theorem nA {f : Nat} {es : List TE} {xl : XL} (h : ∀ y ∈ es, aj prog f y) (hl : MOk xl) : MOk ((f, Gf es) :: xl) := Ci (Ld h) hl
noncomputable def adF (d : Dt) (b : UInt8) : Bool := match d with
 | .cell (.int .u8 v) => eqI v b.toNat
 | _ => false
noncomputable def adN (f : Nat -> Nat -> Dt) (l : List UInt8) : Nat -> Bool := @List.rec UInt8 (fun _ => Nat -> Bool) (fun _ => true) (fun b _ ih k => aP (adF (f k 0) b) (ih (Nat.succ k))) l
noncomputable def stC (t : ByteArray) (al : List SV) (g : Nat -> Option Ob) : Bool := match al with
 | [.ptr i 5] => match g i with
   | some (.cells 187 [_, _, _, _, _, _, .nm j, _]) => match g j with
     | some (.row 5 1 n f) => aP (Nat.beq n t.data.toList.length) (adN f t.data.toList 0)
     | _ => false
   | _ => false
 | _ => false
end Gv
set_option linter.unusedSimpArgs false
set_option linter.unusedVariables false
open Rx Go
namespace Gv
open Rd
noncomputable section
def inN (i : Nat) (l : List Nat) : Bool := @List.rec Nat (fun _ => Bool) false (fun x _ ih => @Bool.rec (fun _ => Bool) ih true (Nat.beq x i)) l
def addN (i : Nat) (l : List Nat) : List Nat := @Bool.rec (fun _ => List Nat) (l ++ [i]) l (inN i l)
def aaM (s : SV) : List Nat -> List Nat := @SV.rec (fun _ => List Nat -> List Nat) (fun _ => List Nat -> List Nat) (fun l => l) (fun _ l => l) (fun _ x l => x l) (fun _ x l => x l) (fun i _ l => addN i l) (fun _ _ l => l) (fun _ _ x l => x l) (fun _ l => l) (fun _ _ l => l) (fun i l => addN i l) (fun i _ _ _ l => addN i l) (fun _ _ _ _ l => l) (fun i _ _ _ _ l => addN i l) (fun _ l => l) (fun l => l) (fun _ _ x xs l => xs (x l)) s
def acH (l : List SV) : List Nat -> List Nat := @List.rec SV (fun _ => List Nat -> List Nat) (fun n => n) (fun s _ ih n => ih (aaM s n)) l
def adK (t : Tr SV) : List Nat -> List Nat := @Tr.rec SV (fun _ => List Nat -> List Nat) (fun n => n) (fun _ v _ gl gr n => gr (aaM v (gl n))) t
def adJ (o : Option Ob) (n : List Nat) : List Nat := @Option.rec Ob (fun _ => List Nat) n (fun b => @Ob.rec (fun _ => List Nat) (fun _ cs => acH cs n) (fun _ _ _ _ => n) (fun _ => n) (fun _ _ _ => n) (fun m _ _ => addN m n) (fun _ _ _ tr _ => adK tr n) (fun m _ _ => addN m n) b) o
abbrev Hp := List (Nat × Ob)
def acy (h : Hp) (i : Nat) : Option Ob := @List.rec (Nat × Ob) (fun _ => Option Ob) none (fun x _ ih => @Bool.rec (fun _ => Option Ob) ih (some x.2) (Nat.beq x.1 i)) h
def ab1 (h : Hp) (fu : Nat) : Nat -> List Nat -> List Nat := @Nat.rec (fun _ => Nat -> List Nat -> List Nat) (fun _ l => l) (fun _ ih k l => @Bool.rec (fun _ => List Nat) l (ih (Nat.succ k) (adJ (acy h (bU l k)) l)) (Nat.blt k l.length)) fu
def ixN (l : List Nat) (i : Nat) : Nat := @List.rec Nat (fun _ => Nat) (nat_lit 0) (fun x _ ih => @Bool.rec (fun _ => Nat) (Nat.succ ih) (nat_lit 0) (Nat.beq x i)) l
def Zw (h : Hp) (r : Nat -> Nat) (l : List Nat) : List (Option Ob) := @List.rec Nat (fun _ => List (Option Ob)) [] (fun i _ ih => @Option.rec Ob (fun _ => Option Ob) none (fun b => some (rnO r b)) (acy h i) :: ih) l
def acf (l : List Nat) : Nat -> List Nat := @List.rec Nat (fun _ => Nat -> List Nat) (fun _ => []) (fun x xs ih n => @Nat.rec (fun _ => List Nat) (x :: xs) (fun m _ => ih m) n) l
def mkE (al : List SV) (h : Hp) (r : SV) (h' : Hp) : TE :=
 (fun ids => (fun all => (⟨ids.length, rnL (ixN all) al, Zw h (ixN all) ids, rnS (ixN all) r, Zw h' (ixN all) (acf all ids.length)⟩ : TE)) (ab1 (h' ++ h) 400 0 (aaM r ids))) (ab1 h 400 0 (acH al []))
end
end Gv
set_option linter.unusedSimpArgs false
set_option linter.unusedVariables false
open Rx Go
namespace Gv
open Rd
noncomputable section
def sy2 (s : SV) : SV := @SV.rec (fun _ => SV) (fun _ => List SV) .junk (fun d => .dt d) (fun _ x => .agg x) (fun _ x => .tup x) (fun i o => .ptr i o) (fun m g => .el m g) (fun f _ x => .fn f x) (fun b => .kb b) (fun k n => .ki k n) (fun i => .nm i) (fun i x z o => .rp i x z o) (fun k a b n => .ri k a b n) (fun i z o n c => .sl i z o n c) (fun s => .dt (.cell (.string s))) [] (fun _ _ x l => x :: l) s
def Je (l : List SV) : List SV := @List.rec SV (fun _ => List SV) [] (fun s _ ih => sy2 s :: ih) l
def Xt (t : Tr SV) : Tr SV := @Tr.rec SV (fun _ => Tr SV) .nil (fun _ v _ gl gr => .node gl (sy2 v) gr) t
def Jf (b : Ob) : Ob := @Ob.rec (fun _ => Ob) (fun t cs => .cells t (Je cs)) (fun t z n f => .row t z n f) (fun d => .frz d) (fun k v l => .mp k v l) (fun m n s => .it m n s) (fun t z n tr ex => .vec t z n (Xt tr) ex) (fun m n c => .itx m n c) b
def gV (l : List (Option Ob)) : List (Option Ob) := @List.rec (Option Ob) (fun _ => List (Option Ob)) [] (fun o _ ih => @Option.rec Ob (fun _ => Option Ob) none (fun b => some (Jf b)) o :: ih) l
def zR (e : TE) : TE := ⟨e.m, Je e.al, gV e.obs, sy2 e.r, gV e.out⟩
section
variable {C : Ctx} {w : World} {τ : Nat -> Nat}
mutual
theorem uU : ∀ (s : SV) (v : Value), rel C w (rnS τ (sy2 s)) v ↔ rel C w (rnS τ s) v
 | .junk, _ => Iff.rfl
 | .dt _, _ => Iff.rfl
 | .agg l, v => exists_congr fun vs => and_congr Iff.rfl (wR l vs)
 | .tup l, v => exists_congr fun vs => and_congr Iff.rfl (wR l vs)
 | .ptr i _, _ => Iff.rfl
 | .el _ _, _ => Iff.rfl
 | .fn _ l, _ => exists_congr fun vs => and_congr Iff.rfl (wR l vs)
 | .kb _, _ => Iff.rfl
 | .sy s, v => ah
 | .ki _ _, _ => Iff.rfl
 | .nm i, _ => Iff.rfl
 | .rp i _ _ _, _ => Iff.rfl
 | .ri _ _ _ _, _ => Iff.rfl
 | .sl i _ _ _ _, _ => Iff.rfl
theorem wR : ∀ (l : List SV) (vs : List Value), relL C w (match rnS τ (sy2 (.agg l)) with | .agg x => x | _ => []) vs ↔ relL C w (match rnS τ (.agg l) with | .agg x => x | _ => []) vs
 | [], _ => Iff.rfl
 | s :: l, _ => exists_congr fun v => exists_congr fun r => and_congr Iff.rfl (and_congr (uU s v) (wR l r))
end
theorem IJ : ∀ (l : List SV) (vs : List Value), relL C w (rnL τ (Je l)) vs ↔ relL C w (rnL τ l) vs
 | [], _ => Iff.rfl
 | s :: l, _ => exists_congr fun v => exists_congr fun r => and_congr Iff.rfl (and_congr (uU s v) (IJ l r))
theorem Dn : ∀ (t : Tr SV) (k : Nat), (Xt t).get .junk k = sy2 (t.get .junk k)
 | .nil, _ => rfl
 | .node l v x, k => by
   show (Tr.node (Xt l) (sy2 v) (Xt x)).get .junk k = _
   simp only [Tr.get]
   cases k.beq 0 with
   | true => rfl
   | false =>
     cases (k % 2).beq 1 with
     | true => exact Dn l _
     | false => exact Dn x _
theorem Ku (i : Nat) (ob : Ob) : obHolds C w i (rnO τ (Jf ob)) ↔ obHolds C w i (rnO τ ob) := by
 cases ob with
 | cells t cs => exact exists_congr fun b => and_congr Iff.rfl (and_congr Iff.rfl (exists_congr fun vs => and_congr Iff.rfl (IJ cs vs)))
 | vec t z n tr ex =>
   refine exists_congr fun b => exists_congr fun m => and_congr Iff.rfl (and_congr Iff.rfl (and_congr Iff.rfl (and_congr Iff.rfl (exists_congr fun cur => and_congr Iff.rfl (and_congr Iff.rfl (forall_congr' fun k => imp_congr Iff.rfl (exists_congr fun u => and_congr Iff.rfl (and_congr Iff.rfl ?_))))))))
   rw [wU, wU, Dn]
   exact uU _ _
 | _ => exact Iff.rfl
end
theorem jk : ∀ {l : List (Option Ob)} {i : Nat}, (gV l)[i]? = (l[i]?).map (Option.map Jf)
 | [], _ => by simp [gV]
 | o :: l, 0 => by cases o <;> rfl
 | o :: l, i + 1 => by
   show (gV l)[i]? = _
   simpa using jk (l := l) (i := i)
theorem nI : ∀ l : List (Option Ob), (gV l).length = l.length
 | [] => rfl
 | _ :: l => congrArg Nat.succ (nI l)
theorem wS {C : Ctx} {w : World} (l : List SV) (vs : List Value) : relL C w (Je l) vs ↔ relL C w l vs := by
 have := IJ (C := C) (w := w) (τ := id) l vs
 rwa [yx, yx] at this
theorem Io {C : Ctx} {w : World} (i : Nat) (ob : Ob) : obHolds C w i (Jf ob) ↔ obHolds C w i ob := by
 have := Ku (C := C) (w := w) (τ := id) i ob
 rwa [IQ, IQ] at this
theorem SB {f : FuncId} {e e' : TE} (h : zR e = zR e') (hok : e'.ok = true) (he : aj prog f e) : aj prog f e' := by
 have hm : (zR e).m = (zR e').m := by rw [h]
 replace hm : e.m = e'.m := hm
 have hal : (zR e).al = (zR e').al := by rw [h]
 replace hal : Je e.al = Je e'.al := hal
 have hob : (zR e).obs = (zR e').obs := by rw [h]
 replace hob : gV e.obs = gV e'.obs := hob
 have hr : (zR e).r = (zR e').r := by rw [h]
 replace hr : sy2 e.r = sy2 e'.r := hr
 have hou : (zR e).out = (zR e').out := by rw [h]
 replace hou : gV e.out = gV e'.out := hou
 have hM : e.M = e'.M := by
  show Nat.add e.m e.out.length = Nat.add e'.m e'.out.length
  rw [hm, ← nI e.out, hou, nI]
 refine ⟨hok, fun C w vs hw ho hn hv => ?_⟩
 have h1 := he.2 C w vs hw (fun i ob hi => by
  have e1 : (gV e.obs)[i]? = some (some (Jf ob)) := by rw [jk, hi]; rfl
  rw [hob, jk] at e1
  cases h2 : e'.obs[i]? with
  | none => rw [h2] at e1; cases e1
  | some o =>
    cases o with
    | none => rw [h2] at e1; cases e1
    | some ob' =>
      rw [h2] at e1
      injection e1 with e1; injection e1 with e1
      have := (Io (C := C) (w := w) i ob').2 (ho i ob' h2)
      rw [e1] at this
      exact (Io i ob).1 this) (fun i hi => hn i (hm ▸ hi)) ((wS _ _).1 (hal ▸ (wS _ _).2 hv))
 refine ⟨h1.1, h1.2.mono ?_⟩
 rintro x w' ⟨v, C', τ, hx, hst, hwf, h3, h4, h5, h6, h7, h8⟩
 rw [hm] at hst h3 h4 h5 h6 h8
 rw [hM] at h5 h6
 refine ⟨v, C', τ, hx, hst, hwf, h3, h4, h5, h6, ?_, fun t ob ht => ?_⟩
 · rw [← uU, ← hr, uU]
   exact h7
 · have e1 : (gV e'.out)[t]? = some (some (Jf ob)) := by rw [jk, ht]; rfl
   rw [← hou, jk] at e1
   cases h2 : e.out[t]? with
   | none => rw [h2] at e1; cases e1
   | some o =>
     cases o with
     | none => rw [h2] at e1; cases e1
     | some ob' =>
       rw [h2] at e1
       injection e1 with e1; injection e1 with e1
       have := (Ku (τ := τ) _ ob').2 (h8 t ob' h2)
       rw [e1] at this
       exact (Ku _ ob).1 this
end
end Gv
set_option linter.unusedSimpArgs false
set_option linter.unusedVariables false
open Rx Go
namespace Gv
open Rd
theorem Jm {D : Deps} (hD : D.Ok) {n top : Nat} {f : FuncId} {e : ME} (hok : e.ok = true) (hm : Nat.ble e.m top = true) (ht : Nat.ble top 16000000 = true)
  (h : (zO D.P D.F D.fl D.win D.fuel n top 0 f e.al (obT e.obs 0) e.m (A8 e)).holds fun y => y.1 = .kb true) : eB D.P f e := by
 have hm := Nat.le_of_ble_eq_true hm
 have ht := Nat.le_of_ble_eq_true ht
 obtain ⟨b1, hok'⟩ := aN hok
 obtain ⟨b2, hok'⟩ := aN hok'
 obtain ⟨b3, hok'⟩ := aN hok'
 have b3 := Nat.le_of_ble_eq_true b3
 have hget : ∀ i, av (obT e.obs 0) i = (e.obs[i]?).getD none := fun i => by
  rw [Al e.obs 0 i (by omega), if_pos (Nat.zero_le _), Nat.sub_zero]
 have hF : FOk (obT e.obs 0) e.m := fun i hi => by
  rw [hget, List.getElem?_eq_none (by omega)]; rfl
 have h1 := q8 hD n top 0 f e.al (obT e.obs 0) e.m (A8 e) (fun y => y.1 = .kb true) hF ⟨hm, by omega⟩ h
 refine ⟨hok, fun C w vs ⟨hw, hobs, hnone⟩ hrel => ?_⟩
 have hk : HOk top ⟨av (obT e.obs 0), e.m⟩ C w := ⟨hw, fun i ob hi => by
  have hi : av (obT e.obs 0) i = some ob := hi
  rw [hget] at hi
  cases hx : e.obs[i]? with
  | none => rw [hx] at hi; cases hi
  | some o =>
    rw [hx] at hi
    have hi : o = some ob := hi
    subst hi
    exact hobs i ob hx, fun i hi _ => hnone i hi⟩
 obtain ⟨hc, h2⟩ := (ig hD n top 0 f e.al ⟨av (obT e.obs 0), e.m⟩).1 C w vs _ hk hrel h1
 refine ⟨hc, h2.mono ?_⟩
 rintro x w' ⟨v, C', y, rfl, hy, hst, hk', hv, hfr⟩
 exact ⟨v, rfl, uK (hst.mono fun _ _ => trivial) hk' hv (fun i hi => hfr i (.inl hi)) hy⟩
noncomputable def ada (tbl : List (Nat × List Dx)) (ml : XL) (tl : TL) (f : FuncId) (e : ME) : R := zO prog (FM tbl ml tl) fl win 4000 100 16000000 0 f e.al (obT e.obs (nat_lit 0)) e.m (A8 e)
theorem gL {ml : XL} {tl : TL} {f : FuncId} {e : ME} (tbl : List (Nat × List Dx)) (hm : MOk ml) (ht : TOk tl) (hok : e.ok = true) (hb : Nat.ble e.m 16000000 = true) {q : Prop} (hq : q) (h : q = (ada tbl ml tl f e).holds fun y => y.1 = .kb true) : eB prog f e :=
 Jm (D := Ew tbl ml tl) (qd tbl hm ht) hok hb (by decide) (h ▸ hq)
noncomputable def zS (e : ME) : ME := ⟨e.m, Je e.al, gV e.obs, sy2 e.r, gV e.aft⟩
theorem dV {f : FuncId} {e e' : ME} (h : zS e = zS e') (hok : e'.ok = true) (he : eB prog f e) : eB prog f e' := by
 have hm : (zS e).m = (zS e').m := by rw [h]
 replace hm : e.m = e'.m := hm
 have hal : (zS e).al = (zS e').al := by rw [h]
 replace hal : Je e.al = Je e'.al := hal
 have hob : (zS e).obs = (zS e').obs := by rw [h]
 replace hob : gV e.obs = gV e'.obs := hob
 have hr : (zS e).r = (zS e').r := by rw [h]
 replace hr : sy2 e.r = sy2 e'.r := hr
 have hou : (zS e).aft = (zS e').aft := by rw [h]
 replace hou : gV e.aft = gV e'.aft := hou
 have hM : e.M = e'.M := by
  show e.aft.length = e'.aft.length
  rw [← nI e.aft, hou, nI]
 have swap : ∀ {a b : List (Option Ob)} {i : Nat} {ob : Ob}, gV a = gV b -> a[i]? = some (some ob) -> ∃ ob', b[i]? = some (some ob') /\ Jf ob = Jf ob' := by
  intro a b i ob hab hi
  have e1 : (gV a)[i]? = some (some (Jf ob)) := by rw [jk, hi]; rfl
  rw [hab, jk] at e1
  cases h2 : b[i]? with
  | none => rw [h2] at e1; cases e1
  | some o =>
    cases o with
    | none => rw [h2] at e1; cases e1
    | some ob' =>
      rw [h2] at e1
      injection e1 with e1; injection e1 with e1
      exact ⟨ob', rfl, e1.symm⟩
 refine ⟨hok, fun C w vs ⟨hw, ho, hn⟩ hv => ?_⟩
 have h1 := he.2 C w vs ⟨hw, fun i ob hi => by
  obtain ⟨ob', h2, e1⟩ := swap hob hi
  have := (Io (C := C) (w := w) i ob').2 (ho i ob' h2)
  rw [← e1] at this
  exact (Io i ob).1 this, fun i hi => hn i (hm ▸ hi)⟩ ((wS _ _).1 (hal ▸ (wS _ _).2 hv))
 refine ⟨h1.1, h1.2.mono ?_⟩
 rintro x w' ⟨v, hx, C', τ, hst, hwf, h3, h4, h5, h6, h7, h8⟩
 rw [hm] at h3 h4 h5 h6
 rw [hM] at h5 h6
 refine ⟨v, hx, C', τ, hst, hwf, h3, h4, h5, h6, ?_, fun t ob ht => ?_⟩
 · rw [← uU, ← hr, uU]
   exact h7
 · obtain ⟨ob', h2, e1⟩ := swap hou.symm ht
   have := (Ku (τ := τ) _ ob').2 (h8 t ob' h2)
   rw [← e1] at this
   exact (Ku _ ob).1 this
end Gv
set_option linter.unusedSimpArgs false
set_option linter.unusedVariables false
open Rx Go
namespace Gv
open Rd
abbrev Gd := List SV -> (Nat -> Option Ob) -> Bool
noncomputable def Dw (es : List (Gd × TE)) (al : List SV) (g : Nat -> Option Ob) (new : Nat) (alt : T Res) : T Res := @List.rec (Gd × TE) (fun _ => T Res) alt (fun x _ ih => BT (x.1 al g) (zB x.2 al g new ih) ih) es
noncomputable def ZM (es : List (Gd × TE)) : Summ := ⟨false, fun _ _ _ => [], fun al g new _ => Dw es (uq al) g new .fail⟩
theorem xk {P : Program} {f : FuncId} {C : Ctx} {w : World} {g : Nat -> Option Ob} {al : List SV} {vs : List Value} {new : Nat} {alt : T Res} {post : Res -> Prop} (hw : WF C w) (hg : ObsOk C w g)
  (hnew : ∀ r, post r -> ∀ i ∈ r.eff.new, C.ν i = none) (hr : relL C w al vs) : ∀ (es : List (Gd × TE)), (∀ x ∈ es, aj P f x.2) -> (Dw es al g new alt).holds post ->
  (callable P f = true /\ Calls P f vs.toArray w fun x w' => ∃ v C' r, x = .returned v /\ post r /\ Came C w r C' w' v) ∨ alt.holds post
 | [], _, h => .inr h
 | x :: es, he, h => by
   have ih := fun h : (Dw es al g new alt).holds post => xk (alt := alt) hw hg hnew hr es (fun y hy => he y (by simp [hy])) h
   rcases fM (show (BT (x.1 al g) (zB x.2 al g new (Dw es al g new alt)) (Dw es al g new alt)).holds post from h) with ⟨_, h⟩ | h
   · rcases rQ (he x (by simp)) hw hg hnew hr h with h | h
     · exact .inl h
     · exact ih h
   · exact ih h
theorem Le {f : FuncId} {es : List (Gd × TE)} (he : ∀ x ∈ es, aj prog f x.2) : dW prog f (ZM es) := by
 intro C w g al vs new post hw hg hnew hr h
 rcases xk hw hg hnew (kK hr) es he h with h | h
 · exact h
 · exact h.elim
theorem Jk {f : Nat} : ∀ y ∈ ([] : List (Gd × TE)), aj prog f y.2 := fun _ h => (by cases h)
theorem tg {f : Nat} {x : Gd × TE} {l : List (Gd × TE)} (h : aj prog f x.2) (hl : ∀ y ∈ l, aj prog f y.2) : ∀ y ∈ x :: l, aj prog f y.2 := fun y hy => by
 rcases List.mem_cons.1 hy with rfl | hy
 · exact h
 · exact hl y hy
theorem bZ {f : Nat} {es : List (Gd × TE)} {xl : XL} (h : ∀ y ∈ es, aj prog f y.2) (hl : MOk xl) : MOk ((f, ZM es) :: xl) := Ci (Le h) hl
noncomputable def xq (es : List (Gd × ME)) (al : List SV) (g : Nat -> Option Ob) (new : Nat) (alt : T Res) : T Res := @List.rec (Gd × ME) (fun _ => T Res) alt (fun x _ ih => BT (x.1 al g) (Dy x.2 al g new ih) ih) es
noncomputable def Vk (es : List (Gd × ME)) : Summ := ⟨false, fun _ _ _ => [], fun al g new _ => xq es (uq al) g new .fail⟩
theorem uD {P : Program} {f : FuncId} {C : Ctx} {w : World} {g : Nat -> Option Ob} {al : List SV} {vs : List Value} {new : Nat} {alt : T Res} {post : Res -> Prop} (hw : WF C w) (hg : ObsOk C w g)
  (hnew : ∀ r, post r -> ∀ i ∈ r.eff.new, C.ν i = none) (hr : relL C w al vs) : ∀ (es : List (Gd × ME)), (∀ x ∈ es, eB P f x.2) -> (xq es al g new alt).holds post ->
  (callable P f = true /\ Calls P f vs.toArray w fun x w' => ∃ v C' r, x = .returned v /\ post r /\ Came C w r C' w' v) ∨ alt.holds post
 | [], _, h => .inr h
 | x :: es, he, h => by
   have ih := fun h : (xq es al g new alt).holds post => uD (alt := alt) hw hg hnew hr es (fun y hy => he y (by simp [hy])) h
   rcases fM (show (BT (x.1 al g) (Dy x.2 al g new (xq es al g new alt)) (xq es al g new alt)).holds post from h) with ⟨_, h⟩ | h
   · rcases Lg (he x (by simp)) hw hg hnew hr h with h | h
     · exact .inl h
     · exact ih h
   · exact ih h
theorem Jl {f : FuncId} {es : List (Gd × ME)} (he : ∀ x ∈ es, eB prog f x.2) : dW prog f (Vk es) := by
 intro C w g al vs new post hw hg hnew hr h
 rcases uD hw hg hnew (kK hr) es he h with h | h
 · exact h
 · exact h.elim
theorem aaH {f : Nat} : ∀ y ∈ ([] : List (Gd × ME)), eB prog f y.2 := fun _ h => (by cases h)
theorem mg {f : Nat} {x : Gd × ME} {l : List (Gd × ME)} (h : eB prog f x.2) (hl : ∀ y ∈ l, eB prog f y.2) : ∀ y ∈ x :: l, eB prog f y.2 := fun y hy => by
 rcases List.mem_cons.1 hy with rfl | hy
 · exact h
 · exact hl y hy
theorem jH {f : Nat} {es : List (Gd × ME)} {xl : XL} (h : ∀ y ∈ es, eB prog f y.2) (hl : MOk xl) : MOk ((f, Vk es) :: xl) := Ci (Jl h) hl
noncomputable def isC (s : SV) (x : Int) : Bool := match s with
 | .dt (.cell (.int .i64 y)) => eqI y x
 | _ => false
noncomputable def hiB (s : SV) (x : Int) : Bool := match s with
 | .ri _ _ b _ => eqI b x
 | _ => false
noncomputable def slP (s : SV) (g : Nat -> Option Ob) (n : Nat) (c : Tr SV -> Bool) : Bool := match s with
 | .sl j 3 0 n' _ => bif Nat.beq n n' then (match g j with
   | some (.vec _ _ _ tr _) => c tr
   | _ => false) else false
 | _ => false
noncomputable def gWd (n w : Nat) (x : Int) : Gd := fun al g => match al with
 | [.agg [s, _]] => slP s g n fun tr => isC (tr.get .junk (Nat.mul 3 w)) x
 | [s] => slP s g n fun tr => isC (tr.get .junk (Nat.mul 3 w)) x
 | _ => false
noncomputable def gBd (x : Int) : Gd := fun al g => match al with
 | [_, _, s] => slP s g 2 fun tr => hiB (tr.get .junk 1) x
 | _ => false
end Gv
