/- What (*maker).find tells. -/
import Derived.Test.YtkbdcpkbmfegdaaGreatDoorSGvN
import Derived.Test.YtkbdcpkbmfegdaaGreatDoorSRxD1
set_option linter.unusedSimpArgs false
set_option linter.unusedVariables false
open Rx Go
namespace Gv
open Rd
abbrev I (n : Int) : SV := .ki .i64 n
abbrev S (s : ByteArray) : SV := .dt (.cell (.string s))
abbrev J : SV := .junk
abbrev C (n : Int) : SV := .dt (.cell (.int .i64 n))
abbrev D (d : Dt) : SV := .dt d
abbrev V (i z o n : Nat) : SV := .sl i z o n none
abbrev aT : SV := .dt (.cell (.slice none 0 0))
abbrev XI : SV := .dt (.cell (.pointer none))
def s0 : ByteArray := ⟨#[]⟩
def JR (g : Nat -> Option Ob) : List SV -> Option (List (Nat × ByteArray))
 | [] => some []
 | v :: l => match v with
   | .ptr i 0 => match g i with
     | some (.cells _ (x :: _)) => match jy x, JR g l with
       | some s, some r => some ((i, s) :: r)
       | _, _ => none
     | _ => none
   | _ => none
noncomputable def Ew (s : ByteArray) : List (Nat × ByteArray) -> Option Nat -> Option Nat
 | [], a => a
 | p :: l, a => Ew s l (bif JE p.2 s then some p.1 else a)
noncomputable def aeA (o : Option Nat) : T Res := match o with
 | some i => .ret ⟨.ptr i 0, .none⟩
 | none => .ret ⟨XI, .none⟩
noncomputable def XD (g : Nat -> Option Ob) (s : ByteArray) (v : SV) : T Res := match v with
 | .sl j z a n _ => match g j with
   | some (.vec _ z' len tr _) => bif Nat.beq z 1 && (Nat.beq z' 1 && (Nat.ble (a + n) len && Nat.ble n 1000)) then (match JR g (nH tr n a) with
     | some l => aeA (Ew s l none)
     | none => .fail) else .fail
   | _ => .fail
 | .dt (.cell (.slice none 0 0)) => .ret ⟨XI, .none⟩
 | _ => .fail
noncomputable def Oc (al : List SV) (g : Nat -> Option Ob) : T Res := match al with
 | [.ptr i o, x] => match jy x with
   | some s => match g i with
     | some (.cells _ cs) => match cs[o + 6]? with
       | some v => XD g s v
       | none => .fail
     | _ => .fail
   | none => .fail
 | _ => .fail
theorem Qm (s : ByteArray) : JE s s = true := by
 have : ∀ l : List UInt8, byE l l = true := by
  intro l
  induction l with
  | nil => rfl
  | cons x l ih =>
    show aK (Nat.beq x.toNat x.toNat) (byE l l) = true
    rw [ig, ih, Nat.beq_refl]; rfl
 exact this _
theorem TB {s t : ByteArray} : JE s t = true ↔ s = t := ⟨GR, fun h => h ▸ Qm s⟩
theorem A9 (s : ByteArray) : ∀ (l : List (Nat × ByteArray)) (a : Option Nat),
  ((∀ p ∈ l, p.2 ≠ s) -> Ew s l a = a) /\ ∀ k i t, l[k]? = some (i, t) -> t = s -> (∀ (j : Nat) (p : Nat × ByteArray), k < j -> l[j]? = some p -> p.2 ≠ s) -> Ew s l a = some i
 | [], a => ⟨fun _ => rfl, fun k i t h => by simp at h⟩
 | p :: l, a => by
   obtain ⟨h1, h2⟩ := A9 s l (bif JE p.2 s then some p.1 else a)
   refine ⟨fun h => ?_, fun k i t h ht hl => ?_⟩
   · show Ew s l _ = a
     rw [h1 fun q hq => h q (by simp [hq])]
     cases hb : JE p.2 s with
     | false => rfl
     | true => exact absurd (GR hb) (h p (by simp))
   · show Ew s l _ = some i
     cases k with
     | zero =>
       simp at h
       subst h
       rw [h1 fun q hq => by
        obtain ⟨j, hj⟩ := List.mem_iff_getElem?.1 hq
        exact hl (j + 1) q (by omega) (by simpa using hj)]
       have : JE t s = true := TB.2 ht
       rw [this]; rfl
     | succ k => exact h2 k i t (by simpa using h) ht fun j p hj hp => hl (j + 1) p (by omega) (by simpa using hp)
theorem ER {g : Nat -> Option Ob} : ∀ {l : List SV} {r : List (Nat × ByteArray)}, JR g l = some r -> l.length = r.length /\ ∀ (j : Nat) v, l[j]? = some v -> ∃ i t cs x s, v = .ptr i 0 /\ g i = some (.cells t (x :: cs)) /\ jy x = some s /\ r[j]? = some (i, s)
 | [], r, h => by
   simp only [JR, Option.some.injEq] at h
   subst h
   exact ⟨rfl, fun j v hv => by simp at hv⟩
 | v :: l, r, h => by
   unfold JR at h
   split at h
   · rename_i i
     split at h
     · rename_i t x cs hg
       split at h
       · rename_i s r' hs hr
         injection h with h
         subst h
         obtain ⟨h1, h2⟩ := ER hr
         refine ⟨by simp [h1], fun j v hv => ?_⟩
         cases j with
         | zero => simp at hv; subst hv; exact ⟨i, t, cs, x, s, rfl, hg, hs, rfl⟩
         | succ j =>
           obtain ⟨i', t', cs', x', s', e1, e2, e3, e4⟩ := h2 j v (by simpa using hv)
           exact ⟨i', t', cs', x', s', e1, e2, e3, by simpa using e4⟩
       · cases h
     · cases h
   · cases h
theorem bn (tr : Tr SV) : ∀ (n a : Nat), (dY tr a n).length = n
 | 0, _ => rfl
 | n + 1, a => by simp only [dY, List.length_cons, bn tr n]
theorem BQ (tr : Tr SV) : ∀ (n a k : Nat), k < n -> (dY tr a n)[k]? = some (tr.get .junk (a + k))
 | 0, _, _, h => by omega
 | n + 1, a, 0, _ => rfl
 | n + 1, a, k + 1, h => by
   simp only [dY, List.getElem?_cons_succ]
   rw [BQ tr n (a + 1) k (by omega), show a + 1 + k = a + (k + 1) by omega]
theorem aiD : callable prog 137 = true := by kernel_rfl
theorem yX (bm om : Nat) (nm : ByteArray) (a : Option Addr) (len cap : Nat) (q : Nat -> Nat) (nz : Nat -> ByteArray) (hreach : len * 8 <= 140737488351232)
  (w : World) (hm : w.cell? ⟨bm, om + 6, none⟩ = some (.slice a len cap)) (hI : Go.Proofs.Tryz.Vars w.heap.size w (.slice a len cap) q len) (hq : ∀ j, j < len -> w.cell? ⟨q j, 0, none⟩ = some (.string (nz j))) :
  Calls prog 137 #[.pointer (some ⟨bm, om, none⟩), .string nm] w fun e W' =>
   ((e = .returned (.pointer none) /\ ∀ j, j < len -> nz j ≠ nm) ∨ (∃ k : Nat, k < len /\ e = .returned (.pointer (some ⟨q k, 0, none⟩)) /\ nz k = nm /\ ∀ j, k < j -> j < len -> nz j ≠ nm)) /\ RowKit.Below w.heap.size w W' :=
 callsIn_wide.1 (Go.Proofs.Tryz.V7 Fence.wide 3 trivial trivial trivial rfl (Nat.le_refl _) bm om nm a len cap q nz hreach w hm hI hq)
theorem Ko : bJ prog 137 (mkS fun al g _ => Oc al g) := by
 intro C w g al vs new post hw hg hnew hr hh
 replace hh : (Oc al g).holds post := hh
 unfold Oc at hh
 split at hh
 · rename_i i o x
   split at hh
   · rename_i s hs
     split at hh
     · rename_i t cs hgi
       split at hh
       · rename_i v hv
         refine ⟨aiD, ?_⟩
         obtain ⟨u, _, rfl, ⟨bm, hbm, rfl⟩, y, _, rfl, hx, rfl⟩ := hr
         have hy := gG hs hx
         subst hy
         obtain ⟨b', h1, h2, us, h3, h4⟩ := hg i _ hgi
         rw [hbm] at h2
         injection h2 with h2; injection h2 with h2; injection h2 with h2; injection h2 with h2
         subst h2
         obtain ⟨u, hu, hru⟩ := aY (o + 6) v h4 hv
         have hcell : w.cell? ⟨bm, o + 6, none⟩ = some u := by
          rw [Lib.cell_of_heap h3]
          simpa using hu
         have fin : ∀ (e : Ending) (W' : World) (sv : SV) (z : Value), RowKit.Below w.heap.size w W' -> e = .returned z -> post ⟨sv, .none⟩ -> rel C w sv z -> ∃ v C' r, e = .returned v /\ post r /\ Came C w r C' W' v := by
          intro e W' sv z hb he hp hz
          have hst : Step (fun _ => False) C w C W' := dV (r9 hb)
          exact ⟨z, C, _, he, hp, aC hst _ _ hz, hst.mono fun _ h => h.elim, jc hw hst, fun k hk => .inl hk, fun k ob hk => by cases hk⟩
         unfold XD at hh
         split at hh
         · rename_i j z a n c
           split at hh
           · rename_i t' z' len tr ex hgj
             cases hb : (Nat.beq z 1 && (Nat.beq z' 1 && (Nat.ble (a + n) len && Nat.ble n 1000))) with
             | false => rw [hb] at hh; exact hh.elim
             | true =>
               rw [hb, cond_true] at hh
               simp only [Bool.and_eq_true] at hb
               obtain ⟨q1, q2, q3, q4⟩ := hb
               have q1 := Nat.eq_of_beq_eq_true q1
               have q2 := Nat.eq_of_beq_eq_true q2
               have q3 := Nat.le_of_ble_eq_true q3
               have q4 := Nat.le_of_ble_eq_true q4
               subst q1 q2
               split at hh
               · rename_i l hl
                 obtain ⟨b, m, cc, xx, k1, rfl, k2, k3, k4, _⟩ := hru
                 obtain ⟨b2, m2, e1, e2, e3, e4, cur, e5, e6, e7⟩ := hg j _ hgj
                 rw [k1] at e2
                 injection e2 with e2; injection e2 with e2 e2'; injection e2 with e2; injection e2 with e2
                 subst e2 e2'
                 rw [nI] at hl
                 obtain ⟨l1, l2⟩ := ER hl
                 have htl := bn tr n a
                 have htg : ∀ k, k < n -> (dY tr a n)[k]? = some (tr.get .junk (a + k)) := fun k hk => BQ tr n a k hk
                 rw [htl] at l1
                 have key : ∀ k, k < n -> ∃ i s bq, l[k]? = some (i, s) /\ C.ν i = some (.pointer (some ⟨bq, 0, none⟩)) /\ w.cell? ⟨b, xx + k, none⟩ = some (.pointer (some ⟨bq, 0, none⟩)) /\ w.cell? ⟨bq, 0, none⟩ = some (.string s) := by
                  intro k hk
                  obtain ⟨i', t2, cs2, x2, s2, f1, f2, f3, f4⟩ := l2 k _ (htg k hk)
                  obtain ⟨u2, g1, g2, g3⟩ := e7 (a + k) (by omega)
                  rw [f1] at g3
                  obtain ⟨bq, g4, rfl⟩ := g3
                  obtain ⟨b3, p1, p2, us3, p3, p4⟩ := hg i' _ f2
                  rw [g4] at p2
                  injection p2 with p2; injection p2 with p2; injection p2 with p2; injection p2 with p2
                  subst p2
                  obtain ⟨y3, r3, rfl, p5, _⟩ := p4
                  have := gG f3 p5
                  subst this
                  refine ⟨i', s2, bq, f4, g4, ?_, by rw [Lib.cell_of_heap p3]; rfl⟩
                  have hxx : xx = a := by
                   rcases k2 with k2 | k2
                   · omega
                   · omega
                  rw [hxx, Lib.cell_of_heap e5]
                  exact g1
                 let q : Nat -> Nat := fun k => match (l[k]?).bind fun p => C.ν p.1 with
                  | some (.pointer (some ad)) => ad.block
                  | _ => 0
                 let nz : Nat -> ByteArray := fun k => ((l[k]?).map (·.2)).getD s0
                 have hqk : ∀ k, k < n -> ∃ i s, l[k]? = some (i, s) /\ C.ν i = some (.pointer (some ⟨q k, 0, none⟩)) /\ w.cell? ⟨b, xx + k, none⟩ = some (.pointer (some ⟨q k, 0, none⟩)) /\ w.cell? ⟨q k, 0, none⟩ = some (.string (nz k)) /\ nz k = s := by
                  intro k hk
                  obtain ⟨i', s2, bq, f1, f2, f3, f4⟩ := key k hk
                  have hq : q k = bq := by simp only [q, f1, Option.bind_some, f2]
                  have hz : nz k = s2 := by simp only [nz, f1, Option.map_some, Option.getD_some]
                  rw [hq, hz]
                  exact ⟨i', s2, f1, f2, f3, f4, rfl⟩
                 have hblt : b < w.heap.size := (Array.getElem?_eq_some_iff.1 e5).1
                 refine (yX bm o s (some ⟨b, xx, none⟩) n cc q nz (by omega) w hcell (.inr ⟨b, xx, cc, rfl, hblt, fun k hk => by
                  obtain ⟨i', s2, f1, f2, f3, f4, f5⟩ := hqk k hk
                  exact f3⟩) fun k hk => by
                  obtain ⟨i', s2, f1, f2, f3, f4, f5⟩ := hqk k hk
                  exact f4).mono ?_
                 rintro e W' ⟨he, hbel⟩
                 obtain ⟨p1, p2⟩ := A9 s l none
                 rcases he with ⟨he, hne⟩ | ⟨k, hk, he, hke, hla⟩
                 · rw [p1 fun p hp => by
                    obtain ⟨k, hk⟩ := List.mem_iff_getElem?.1 hp
                    have hkn : k < n := by have := (List.getElem?_eq_some_iff.1 hk).1; omega
                    obtain ⟨i', s2, f1, f2, f3, f4, f5⟩ := hqk k hkn
                    have := hne k hkn
                    rw [hk] at f1; injection f1 with f1
                    rw [f1]; rw [f5] at this; exact this] at hh
                   exact fin e W' _ _ hbel he hh (aj.2 rfl)
                 · obtain ⟨i', s2, f1, f2, f3, f4, f5⟩ := hqk k hk
                   rw [p2 k i' s2 f1 (by rw [← f5]; exact hke) fun j p hj hp => by
                    have hjn : j < n := by have := (List.getElem?_eq_some_iff.1 hp).1; omega
                    obtain ⟨i3, s3, d1, d2, d3, d4, d5⟩ := hqk j hjn
                    have := hla j hj hjn
                    rw [hp] at d1; injection d1 with d1
                    rw [d1]; rw [d5] at this; exact this] at hh
                   exact fin e W' _ _ hbel he hh ⟨q k, f2, rfl⟩
               · exact hh.elim
           · exact hh.elim
         · have hu' : u = .slice none 0 0 := aj.1 hru
           subst hu'
           refine (yX bm o s none 0 0 (fun _ => 0) (fun _ => s0) (by omega) w hcell (.inl ⟨rfl, rfl⟩) fun k hk => by omega).mono ?_
           rintro e W' ⟨he, hbel⟩
           rcases he with ⟨he, _⟩ | ⟨k, hk, _⟩
           · exact fin e W' _ _ hbel he hh (aj.2 rfl)
           · omega
         · exact hh.elim
       · exact hh.elim
     · exact hh.elim
   · exact hh.elim
 · exact hh.elim
end Gv
set_option linter.unusedSimpArgs false
set_option linter.unusedVariables false
open Rx Go
namespace Gv
open Rd
noncomputable def half (l : List SV) : Bool -> List SV := @List.rec SV (fun _ => Bool -> List SV) (fun _ => []) (fun x _ ih b => @Bool.rec (fun _ => List SV) (ih true) (x :: ih false) b) l
noncomputable def tL (n : Nat) : List SV -> Tr SV := @Nat.rec (fun _ => List SV -> Tr SV) (fun _ => .nil) (fun _ ih l => @List.rec SV (fun _ => Tr SV) .nil (fun x xs _ => .node (ih (half xs true)) x (ih (half xs false))) l) n
noncomputable abbrev vc (t : TypeId) (z n : Nat) (l : List SV) (ex : Bool) : Ob := .vec t z n (tL (nat_lit 16) l) ex
abbrev TL := List (Nat × List (Nat × TE))
noncomputable def X8 (tl : TL) (f : Nat) (o : Option Summ) : Option Summ := @List.rec (Nat × List (Nat × TE)) (fun _ => Option Summ) o (fun x _ ih => @Bool.rec (fun _ => Option Summ) ih (some (Vm x.2)) (Nat.beq x.1 f)) tl
noncomputable def F1 (tbl : List (Nat × List Dx)) (f : FuncId) : Option Summ := @Bool.rec (fun _ => Option Summ) (F tbl f) (some (mkS fun al g _ => Oc al g)) (Nat.beq f 137)
theorem aeu (tbl : List (Nat × List Dx)) (f : FuncId) (s : Summ) (h : F1 tbl f = some s) : bJ prog f s := by
 unfold F1 at h
 cases hb : Nat.beq f 137 with
 | false => rw [hb] at h; exact aiy tbl f s h
 | true =>
   rw [hb] at h
   injection h with h
   subst h
   have := Nat.eq_of_beq_eq_true hb
   subst this
   exact Ko
noncomputable def FT (tbl : List (Nat × List Dx)) (tl : TL) (f : FuncId) : Option Summ := X8 tl f (F1 tbl f)
def TOk (tl : TL) : Prop := ∀ x ∈ tl, ∀ y ∈ x.2, ah prog x.1 y.2
theorem aO : TOk [] := fun _ h => (by cases h)
theorem Vk {x : Nat × List (Nat × TE)} {l : TL} (h : ∀ y ∈ x.2, ah prog x.1 y.2) (hl : TOk l) : TOk (x :: l) := fun y hy => by
 rcases List.mem_cons.1 hy with rfl | hy
 · exact h
 · exact hl y hy
theorem fD {f : Nat} : ∀ y ∈ ([] : List (Nat × TE)), ah prog f y.2 := fun _ h => (by cases h)
theorem Xm {f : Nat} {x : Nat × TE} {l : List (Nat × TE)} (h : ah prog f x.2) (hl : ∀ y ∈ l, ah prog f y.2) : ∀ y ∈ x :: l, ah prog f y.2 := fun y hy => by
 rcases List.mem_cons.1 hy with rfl | hy
 · exact h
 · exact hl y hy
theorem Qx (tbl : List (Nat × List Dx)) : ∀ {tl : TL}, TOk tl -> ∀ f s, FT tbl tl f = some s -> bJ prog f s
 | [], _, f, s, h => aeu tbl f s h
 | x :: tl, ht, f, s, h => by
   have h : (@Bool.rec (fun _ => Option Summ) (X8 tl f (F1 tbl f)) (some (Vm x.2)) (Nat.beq x.1 f)) = some s := h
   cases hb : Nat.beq x.1 f with
   | true =>
     rw [hb] at h
     injection h with h
     subst h
     have := Nat.eq_of_beq_eq_true hb
     subst this
     exact JO fun y hy => ht x (by simp) y hy
   | false =>
     rw [hb] at h
     exact Qx tbl (fun y hy => ht y (by simp [hy])) f s h
noncomputable def XA (tbl : List (Nat × List Dx)) (tl : TL) : Deps := ⟨prog, FT tbl tl, win, 4000, fl⟩
theorem Rf (tbl : List (Nat × List Dx)) {tl : TL} (h : TOk tl) : (XA tbl tl).Ok := ⟨Qx tbl h, mixed⟩
noncomputable def afn (tbl : List (Nat × List Dx)) (tl : TL) (f : FuncId) (e : TE) : R := Bp prog (FT tbl tl) fl win 4000 100 16000000 e.m f e.al (obT e.obs (nat_lit 0)) e.m (Ib e)
theorem tell {tbl : List (Nat × List Dx)} {tl : TL} {f : FuncId} {e : TE} (ht : TOk tl) (hok : e.ok = true) (hm : Nat.ble e.m 16000000 = true) (h : (afn tbl tl f e).holds fun y => y.1 = .kb true) : ah prog f e :=
 wV (D := XA tbl tl) (Rf tbl ht) hok hm (by decide) h
theorem tk {f : Nat} {l : List (Nat × TE)} {tl : TL} (h : ∀ y ∈ l, ah prog f y.2) (hl : TOk tl) : TOk ((f, l) :: tl) := Vk h hl
theorem tc {f : Nat} {e : TE} {l : List (Nat × TE)} (k : Nat) (h : ah prog f e) (hl : ∀ y ∈ l, ah prog f y.2) : ∀ y ∈ (k, e) :: l, ah prog f y.2 := Xm h hl
theorem lI {tl : TL} {f : FuncId} {e : TE} (tbl : List (Nat × List Dx)) (ht : TOk tl) (hok : e.ok = true) (hm : Nat.ble e.m 16000000 = true) {q : Prop} (hq : q) (h : q = (afn tbl tl f e).holds fun y => y.1 = .kb true) : ah prog f e :=
 tell ht hok hm (h ▸ hq)
def rp (p : Prop) : Nat -> Prop -> Prop
 | 0, q => q
 | k + 1, q => p /\ rp p k q
theorem xw {p q : Prop} (h : p) : ∀ k : Nat, q -> rp p k q
 | 0, hq => hq
 | k + 1, hq => ⟨h, xw h k hq⟩
abbrev qt : Prop := (SV.kb true : SV) = .kb true
abbrev en {α : Type} (x : α) : Prop := x = x
end Gv
set_option linter.unusedSimpArgs false
set_option linter.unusedVariables false
open Rx Go
namespace Gv
open Rd
abbrev XL := List (Nat × Summ)
noncomputable def Ya (xl : XL) (f : Nat) (o : Option Summ) : Option Summ := @List.rec (Nat × Summ) (fun _ => Option Summ) o (fun x _ ih => @Bool.rec (fun _ => Option Summ) ih (some x.2) (Nat.beq x.1 f)) xl
noncomputable def FM (tbl : List (Nat × List Dx)) (xl : XL) (tl : TL) (f : FuncId) : Option Summ := Ya xl f (FT tbl tl f)
def MOk (xl : XL) : Prop := ∀ x ∈ xl, bJ prog x.1 x.2
theorem bT : MOk [] := fun _ h => (by cases h)
theorem iB {f : Nat} {s : Summ} {xl : XL} (h : bJ prog f s) (hl : MOk xl) : MOk ((f, s) :: xl) := fun x hx => by
 rcases List.mem_cons.1 hx with rfl | hx
 · exact h
 · exact hl x hx
theorem Xp (tbl : List (Nat × List Dx)) {tl : TL} (ht : TOk tl) : ∀ {xl : XL}, MOk xl -> ∀ f s, FM tbl xl tl f = some s -> bJ prog f s
 | [], _, f, s, h => Qx tbl ht f s h
 | x :: xl, hm, f, s, h => by
   have h : (@Bool.rec (fun _ => Option Summ) (Ya xl f (FT tbl tl f)) (some x.2) (Nat.beq x.1 f)) = some s := h
   cases hb : Nat.beq x.1 f with
   | true =>
     rw [hb] at h
     injection h with h
     subst h
     have := Nat.eq_of_beq_eq_true hb
     subst this
     exact hm x (by simp)
   | false =>
     rw [hb] at h
     exact Xp tbl ht (fun y hy => hm y (by simp [hy])) f s h
noncomputable def NY (tbl : List (Nat × List Dx)) (ml : XL) (tl : TL) : Deps := ⟨prog, FM tbl ml tl, win, 4000, fl⟩
theorem oz (tbl : List (Nat × List Dx)) {ml : XL} {tl : TL} (hm : MOk ml) (h : TOk tl) : (NY tbl ml tl).Ok := ⟨Xp tbl h hm, mixed⟩
noncomputable def uo (tbl : List (Nat × List Dx)) (ml : XL) (tl : TL) (f : FuncId) (e : TE) : R := Bp prog (FM tbl ml tl) fl win 4000 100 16000000 e.m f e.al (obT e.obs (nat_lit 0)) e.m (Ib e)
theorem fE {ml : XL} {tl : TL} {f : FuncId} {e : TE} (tbl : List (Nat × List Dx)) (hm : MOk ml) (ht : TOk tl) (hok : e.ok = true) (hb : Nat.ble e.m 16000000 = true) {q : Prop} (hq : q) (h : q = (uo tbl ml tl f e).holds fun y => y.1 = .kb true) : ah prog f e :=
 wV (D := NY tbl ml tl) (oz tbl hm ht) hok hb (by decide) (h ▸ hq)
noncomputable def XP (tbl : List (Nat × List Dx)) (ml : XL) (tl : TL) (f : FuncId) (al : List SV) : R := Bp prog (FM tbl ml tl) fl win 4000 100 16000000 0 f al .nil 0 fun s _ _ => .ret (s, ⟨.nil, 0⟩)
theorem R5 {tbl : List (Nat × List Dx)} {ml : XL} {tl : TL} {f : FuncId} {al : List SV} {w : World} {vs : List Value} (hm : MOk ml) (ht : TOk tl) (hgl : Pers C0.W w Glob.ok) (hr : relL C0 w al vs) (h : (XP tbl ml tl f al).holds fun y => y.1 = .kb true) :
  Calls prog f vs.toArray w fun e w' => e = .returned (.bool true) /\ Same w w' := by
 have h1 := pQ (oz tbl hm ht) 100 16000000 0 f al .nil 0 (fun s _ _ => .ret (s, ⟨.nil, 0⟩)) (fun y => y.1 = .kb true) (fun i _ => rfl) ⟨Nat.zero_le _, by decide⟩ h
 have h2 := (gM (oz tbl hm ht) 100 16000000 0 f al ⟨ay .nil, 0⟩).1
 obtain ⟨_, h3⟩ := h2 C0 w vs _ ⟨aes w hgl, fun i ob hi => (by cases hi), fun _ _ _ => rfl⟩ hr h1
 refine h3.mono ?_
 rintro e w' ⟨v, C', y, rfl, ⟨ob', _, hy⟩, hst, _, hv, _⟩
 have hy : y.1 = .kb true := hy
 rw [hy] at hv
 have hv : v = .bool true := hv
 subst hv
 refine ⟨rfl, ?_⟩
 have hst0 : Step (fun _ => False) C0 w C' w' :=
  ⟨hst.ext, hst.w0, hst.own, fun i b _ h => (by cases h), hst.ag.mono fun k _ ⟨i, _, hi⟩ => (by cases hi)⟩
 exact GD hst0
noncomputable def aas : Code := (Go.Proofs.Tryz.f79.body).getD .skip
noncomputable def EF : Code × Code := (xW aas).getD (.skip, .skip)
theorem WW : Go.Proofs.Tryz.f79.body = some aas := by kernel_rfl
theorem Tp : xW aas = some (EF.1, EF.2) := by kernel_rfl
theorem Qg : callable prog 79 = true := by kernel_rfl
theorem Tq : Nat.ble Go.Proofs.Tryz.f79.ntmps 16777215 = true := by kernel_rfl
abbrev LT (e : ME) : Prop := Hr prog Go.Proofs.Tryz.f79 EF.2 e
noncomputable def aat (tbl : List (Nat × List Dx)) (tl : TL) (es : List ME) (e : ME) (k : Nat) : R := afo prog (FM tbl [] tl) fl win 4000 100 16000000 79 Go.Proofs.Tryz.f79 EF.2 es e k
noncomputable def afj (tbl : List (Nat × List Dx)) (tl : TL) (es : List ME) (l : List SV) (e : ME) (k : Nat) : R := afi prog (FM tbl [] tl) fl win 4000 100 16000000 79 Go.Proofs.Tryz.f79 EF.1 EF.2 es l e k
set_option maxRecDepth 100000 in
theorem seg_lt {tl : TL} {es : List ME} {e : ME} (tbl : List (Nat × List Dx)) (ht : TOk tl) (hes : ∀ x ∈ es, LT x) (hl : ∀ x ∈ es, x.al.length = e.al.length) (hok : e.ok = true) (ha : Nat.ble e.al.length 98 = true) (hm : Nat.ble e.m 16000000 = true) (k : Nat) {q : Prop} (hq : q)
  (h : q = (aat tbl tl es e k).holds fun y => y.1 = .kb true) : LT e :=
 Vo (D := NY tbl [] tl) (oz tbl bT ht) hes hl hok Tq ha hm (by decide) k (h ▸ hq)
set_option maxRecDepth 100000 in
theorem aap {tl : TL} {es : List ME} {l : List SV} {e : ME} (tbl : List (Nat × List Dx)) (ht : TOk tl) (hes : ∀ x ∈ es, LT x) (hl : ∀ x ∈ es, x.al.length = l.length) (hok : e.ok = true) (ha : Nat.ble e.al.length 98 = true) (hm : Nat.ble e.m 16000000 = true) (k : Nat) {q : Prop} (hq : q)
  (h : q = (afj tbl tl es l e k).holds fun y => y.1 = .kb true) : eP prog 79 e :=
 Vn (D := NY tbl [] tl) (oz tbl bT ht) Go.Proofs.Tryz.func79 WW Qg Tp hes hl hok Tq ha hm (by decide) k (h ▸ hq)
theorem SS {e : ME} (h : LT e) : ∀ x ∈ [e], LT x := fun x hx => by
 simp only [List.mem_cons, List.not_mem_nil, or_false] at hx
 subst hx
 exact h
theorem afd : ∀ x ∈ ([] : List ME), LT x := fun _ h => (by cases h)
theorem OD {e : ME} {n : Nat} (h : e.al.length = n) : ∀ x ∈ [e], x.al.length = n := fun x hx => by
 simp only [List.mem_cons, List.not_mem_nil, or_false] at hx
 subst hx
 exact h
end Gv
set_option linter.unusedSimpArgs false
set_option linter.unusedVariables false
open Rx Go
namespace Gv
open Rd
noncomputable def Nn (es : List TE) (al : List SV) (g : Nat -> Option Ob) (new : Nat) (alt : T Res) : T Res := @List.rec TE (fun _ => T Res) alt (fun x _ ih => EN x al g new ih) es
noncomputable def bL (es : List TE) : Summ := ⟨false, fun _ _ _ => [], fun al g new _ => Nn es (q9 al) g new .fail⟩
theorem uD {P : Program} {f : FuncId} {C : Ctx} {w : World} {g : Nat -> Option Ob} {al : List SV} {vs : List Value} {new : Nat} {alt : T Res} {post : Res -> Prop} (hw : WF C w) (hg : ObsOk C w g)
  (hnew : ∀ r, post r -> ∀ i ∈ r.eff.new, C.ν i = none) (hr : relL C w al vs) : ∀ (es : List TE), (∀ x ∈ es, ah P f x) -> (Nn es al g new alt).holds post ->
  (callable P f = true /\ Calls P f vs.toArray w fun x w' => ∃ v C' r, x = .returned v /\ post r /\ Came C w r C' w' v) ∨ alt.holds post
 | [], _, h => .inr h
 | x :: es, he, h => by
   rcases wT (he x (by simp)) hw hg hnew hr (show (EN x al g new (Nn es al g new alt)).holds post from h) with h | h
   · exact .inl h
   · exact uD (alt := alt) hw hg hnew hr es (fun y hy => he y (by simp [hy])) h
theorem JK {f : FuncId} {es : List TE} (he : ∀ x ∈ es, ah prog f x) : bJ prog f (bL es) := by
 intro C w g al vs new post hw hg hnew hr h
 rcases uD hw hg hnew (jS hr) es he h with h | h
 · exact h
 · exact h.elim
theorem cK {f : Nat} : ∀ y ∈ ([] : List TE), ah prog f y := fun _ h => (by cases h)
theorem ta {f : Nat} {x : TE} {l : List TE} (h : ah prog f x) (hl : ∀ y ∈ l, ah prog f y) : ∀ y ∈ x :: l, ah prog f y := fun y hy => by
 rcases List.mem_cons.1 hy with rfl | hy
 · exact h
 · exact hl y hy
theorem kR {f : Nat} {es : List TE} {xl : XL} (h : ∀ y ∈ es, ah prog f y) (hl : MOk xl) : MOk ((f, bL es) :: xl) := iB (JK h) hl
noncomputable def Sy (ms : List Bool) : List (Option Ob) -> List (Option Ob) := @List.rec Bool (fun _ => List (Option Ob) -> List (Option Ob)) (fun l => l) (fun b _ ih l => @List.rec (Option Ob) (fun _ => List (Option Ob)) [] (fun o os _ => (@Bool.rec (fun _ => Option Ob) o none b) :: ih os) l) ms
noncomputable def V8 (r : Nat -> Nat) (g : Nat -> Option Ob) (ms : List Bool) : List (Option Ob) -> Nat -> T Res -> T Res := @List.rec Bool (fun _ => List (Option Ob) -> Nat -> T Res -> T Res) (fun _ _ c => c) (fun b _ ih l i c => @List.rec (Option Ob) (fun _ => T Res) c (fun o os _ => @Bool.rec (fun _ => T Res) (ih os (Nat.succ i) c) (@Option.rec Ob (fun _ => T Res) (ih os (Nat.succ i) c) (fun ob => .need (g (r i) = some ob) (ih os (Nat.succ i) c)) o) b) l) ms
noncomputable def nmF (ms : List Bool) : List (Option Ob) -> Bool := @List.rec Bool (fun _ => List (Option Ob) -> Bool) (fun _ => true) (fun b _ ih l => @List.rec (Option Ob) (fun _ => Bool) true (fun o os _ => aK (@Bool.rec (fun _ => Bool) true (@Option.rec Ob (fun _ => Bool) true (fun ob => bdO (nat_lit 0) ob) o) b) (ih os)) l) ms
theorem Jc : ∀ {ms : List Bool} {l : List (Option Ob)} {j : Nat} {ob : Ob}, l[j]? = some (some ob) -> ms[j]? = some true ∨ (Sy ms l)[j]? = some (some ob)
 | [], _, _, _, h => .inr h
 | b :: ms, [], _, _, h => by simp at h
 | b :: ms, o :: l, 0, ob, h => by
   cases b with
   | true => exact .inl rfl
   | false => exact .inr h
 | b :: ms, o :: l, j + 1, ob, h => Jc (ms := ms) (l := l) (j := j) h
theorem OA : ∀ {ms : List Bool} {l : List (Option Ob)} {j : Nat} {ob : Ob}, nmF ms l = true -> l[j]? = some (some ob) -> ms[j]? = some true -> bdO 0 ob = true
 | [], _, _, _, _, _, h => by simp at h
 | b :: ms, [], _, _, _, h, _ => by simp at h
 | b :: ms, o :: l, 0, ob, h, h1, h2 => by
   injection h1 with h1
   injection h2 with h2
   subst h1; subst h2
   exact (aB h).1
 | b :: ms, o :: l, j + 1, ob, h, h1, h2 => OA (ms := ms) (l := l) (j := j) (aB h).2 h1 h2
theorem Iz {r : Nat -> Nat} {g : Nat -> Option Ob} {c : T Res} {post : Res -> Prop} : ∀ {ms : List Bool} {l : List (Option Ob)} {i : Nat}, (V8 r g ms l i c).holds post -> (∀ j ob, l[j]? = some (some ob) -> ms[j]? = some true -> g (r (i + j)) = some ob) /\ c.holds post
 | [], _, _, h => ⟨fun _ _ _ h => by simp at h, h⟩
 | b :: ms, [], _, h => ⟨fun _ _ h => by simp at h, h⟩
 | b :: ms, o :: l, i, h => by
   have key : (b = true -> ∀ ob, o = some ob -> g (r i) = some ob) /\ (V8 r g ms l (i + 1) c).holds post := by
     cases b with
     | false => exact ⟨fun h => (by cases h), h⟩
     | true =>
       cases o with
       | none => exact ⟨fun _ _ h => (by cases h), h⟩
       | some x =>
         have h : g (r i) = some x /\ (V8 r g ms l (i + 1) c).holds post := h
         exact ⟨fun _ ob hob => by injection hob with hob; rw [← hob]; exact h.1, h.2⟩
   have ih := Iz (ms := ms) (l := l) (i := i + 1) key.2
   refine ⟨fun j ob h1 h2 => ?_, ih.2⟩
   cases j with
   | zero => injection h1 with h1; injection h2 with h2; exact key.1 h2 ob h1
   | succ j => have := ih.1 j ob h1 h2; rwa [show i + 1 + j = i + (j + 1) by omega] at this
noncomputable def O7 (ms : List Bool) (e : TE) (al : List SV) (g : Nat -> Option Ob) (new : Nat) (alt : T Res) : T Res :=
 Kr (qQ g (Sy ms e.obs) (nat_lit 0) (asL e.al al [])) fun ids =>
  BT (Nat.beq ids.length e.m) (eqL (rnL (gF e.m ids new) e.al) al (Kk (gF e.m ids new) g (Sy ms e.obs) (nat_lit 0) (V8 (gF e.m ids new) g ms e.obs (nat_lit 0) (.ret (resE e ids new))) alt) alt) alt
theorem JL {P : Program} {f : FuncId} {ms : List Bool} {e : TE} (he : ah P f e) (hms : nmF ms e.obs = true) {C : Ctx} {w : World} {g : Nat -> Option Ob} {al : List SV} {vs : List Value} {new : Nat} {alt : T Res} {post : Res -> Prop} (hw : WF C w) (hg : ObsOk C w g)
  (hnew : ∀ r, post r -> ∀ i ∈ r.eff.new, C.ν i = none) (hr : relL C w al vs) (h : (O7 ms e al g new alt).holds post) :
  (callable P f = true /\ Calls P f vs.toArray w fun x w' => ∃ v C' r, x = .returned v /\ post r /\ Came C w r C' w' v) ∨ alt.holds post := by
 unfold O7 at h
 rw [qp] at h
 have hnd : (qQ g (Sy ms e.obs) 0 (asL e.al al [])).Nodup := qd _ _ _ (yw _ _ _ List.nodup_nil)
 generalize qQ g (Sy ms e.obs) 0 (asL e.al al []) = ids at h hnd
 rcases Or.symm (fZ h) with h | ⟨hlen, h⟩
 · exact .inr h
 have hlen := Nat.eq_of_beq_eq_true hlen
 rcases Or.symm (sM h) with h | ⟨hal, h⟩
 · exact .inr h
 rcases Or.symm (jX h) with h | ⟨hobs, h⟩
 · exact .inr h
 obtain ⟨hfx, h⟩ := Iz h
 refine .inl (BP he hw hg hnew hr hnd hlen hal (fun i b hi => ?_) h)
 rcases Jc (ms := ms) hi with hm | hm
 · have h1 := hfx i b hi hm
   rw [Nat.zero_add] at h1
   refine ⟨b, h1, fun C w i' hb => ?_⟩
   have hb : obHolds C w i' (rnO id b) := by rw [Lp]; exact hb
   exact Jf (C1 := C) (C2 := C) (τ := id) (ρ := gF e.m ids new) (fun _ h => h) (M := 0) (fun i u hi => absurd hi (Nat.not_lt_zero i)) (i1 := i') (i2 := i') (fun _ h => h) (fun _ h => h) (OA hms hi hm) hb
 · have := hobs i b hm
   rwa [Nat.zero_add] at this
noncomputable def Np (es : List (List Bool × TE)) (al : List SV) (g : Nat -> Option Ob) (new : Nat) (alt : T Res) : T Res := @List.rec (List Bool × TE) (fun _ => T Res) alt (fun x _ ih => O7 x.1 x.2 al g new ih) es
noncomputable def fV (es : List (List Bool × TE)) : Summ := ⟨false, fun _ _ _ => [], fun al g new _ => Np es (q9 al) g new .fail⟩
theorem uE {P : Program} {f : FuncId} {C : Ctx} {w : World} {g : Nat -> Option Ob} {al : List SV} {vs : List Value} {new : Nat} {alt : T Res} {post : Res -> Prop} (hw : WF C w) (hg : ObsOk C w g)
  (hnew : ∀ r, post r -> ∀ i ∈ r.eff.new, C.ν i = none) (hr : relL C w al vs) : ∀ (es : List (List Bool × TE)), (∀ x ∈ es, ah P f x.2 /\ nmF x.1 x.2.obs = true) -> (Np es al g new alt).holds post ->
  (callable P f = true /\ Calls P f vs.toArray w fun x w' => ∃ v C' r, x = .returned v /\ post r /\ Came C w r C' w' v) ∨ alt.holds post
 | [], _, h => .inr h
 | x :: es, he, h => by
   rcases JL (he x (by simp)).1 (he x (by simp)).2 hw hg hnew hr (show (O7 x.1 x.2 al g new (Np es al g new alt)).holds post from h) with h | h
   · exact .inl h
   · exact uE (alt := alt) hw hg hnew hr es (fun y hy => he y (by simp [hy])) h
theorem G9 {f : FuncId} {es : List (List Bool × TE)} (he : ∀ x ∈ es, ah prog f x.2 /\ nmF x.1 x.2.obs = true) : bJ prog f (fV es) := by
 intro C w g al vs new post hw hg hnew hr h
 rcases uE hw hg hnew (jS hr) es he h with h | h
 · exact h
 · exact h.elim
theorem rV {f : Nat} : ∀ y ∈ ([] : List (List Bool × TE)), ah prog f y.2 /\ nmF y.1 y.2.obs = true := fun _ h => (by cases h)
theorem tf {f : Nat} {x : List Bool × TE} {l : List (List Bool × TE)} (h : ah prog f x.2) (h2 : nmF x.1 x.2.obs = true) (hl : ∀ y ∈ l, ah prog f y.2 /\ nmF y.1 y.2.obs = true) : ∀ y ∈ x :: l, ah prog f y.2 /\ nmF y.1 y.2.obs = true := fun y hy => by
 rcases List.mem_cons.1 hy with rfl | hy
 · exact ⟨h, h2⟩
 · exact hl y hy
theorem KX {f : Nat} {es : List (List Bool × TE)} {xl : XL} (h : ∀ y ∈ es, ah prog f y.2 /\ nmF y.1 y.2.obs = true) (hl : MOk xl) : MOk ((f, fV es) :: xl) := iB (G9 h) hl
theorem GJ {f : FuncId} {s s' : Summ} (hs : bJ prog f s) (h : ∀ (al : List SV) (g : Nat -> Option Ob) (new : Nat) (post : Res -> Prop), (s'.run al g new f).holds post -> (s.run al g new f).holds post) : bJ prog f s' :=
 fun C w g al vs new post hw hg hn hr hh => hs C w g al vs new post hw hg hn hr (h al g new post hh)
noncomputable def WL (g : Nat -> Option Ob) (new : Nat) (p : SV) (ok : Nat -> Bool) (N : Nat -> Nat) (fn : Nat -> (Nat -> Nat -> Dt) -> Nat -> Nat -> Dt) : T Res := match p with
 | .ptr i 5 => match g i with
   | some (.cells 187 [x0, x1, x2, x3, x4, A, B, x7]) => bif Kw i A && Nat.blt i new then (match B with
     | .nm j => match g j with
       | some (.row 5 1 n f) => bif !Nat.beq i j && Nat.blt j new then BT (ok n) (.ret ⟨.junk, ⟨[(i, some (.cells 187 [x0, x1, x2, x3, x4, .ptr i 5, .nm new, x7])), (j, none), (new, some (.row 5 1 (N n) (fn n f)))], [new]⟩⟩) .fail else .fail
       | _ => .fail
     | .dt (.cell (.slice none 0 0)) => BT (ok 0) (.ret ⟨.junk, ⟨[(i, some (.cells 187 [x0, x1, x2, x3, x4, .ptr i 5, .nm (new + 1), x7])), (new, none), (new + 1, some (.row 5 1 (N 0) (fn 0 row0)))], [new, new + 1]⟩⟩) .fail
     | _ => .fail) else .fail
   | _ => .fail
 | _ => .fail
theorem Jo {g : Nat -> Option Ob} {new : Nat} {p : SV} {okb : Nat -> Bool} {ok : Nat -> Prop} {N : Nat -> Nat} {fn : Nat -> (Nat -> Nat -> Dt) -> Nat -> Nat -> Dt} {post : Res -> Prop} (h : ∀ n, okb n = true -> ok n)
  (hh : (WL g new p okb N fn).holds post) : (Qd g new p ok N fn).holds post := by
 unfold WL at hh
 unfold Qd
 split at hh
 · rename_i i
   split at hh
   · rename_i x0 x1 x2 x3 x4 A B x7 hg
     simp only [hg]
     cases hb : (Kw i A && Nat.blt i new) with
     | false => rw [hb] at hh; exact hh.elim
     | true =>
       rw [hb, cond_true] at hh
       rw [cond_true]
       split at hh
       · rename_i j
         split at hh
         · rename_i n f hgj
           simp only [hgj]
           cases hb2 : (!Nat.beq i j && Nat.blt j new) with
           | false => rw [hb2] at hh; exact hh.elim
           | true =>
             rw [hb2, cond_true] at hh
             rw [cond_true]
             exact ⟨h _ (qU hh).1, (qU hh).2⟩
         · exact hh.elim
       · exact ⟨h _ (qU hh).1, (qU hh).2⟩
       · exact hh.elim
   · exact hh.elim
 · exact hh.elim
noncomputable def wsK (al : List SV) (g : Nat -> Option Ob) (new : Nat) : T Res := match al with
 | [p, x] => match jy x with
   | some s => WL g new p (fun n => Nat.ble (n + s.size) 100000) (fun n => n + s.size) fun n f => Rx.gP n f (H9 s)
   | none => .fail
 | _ => .fail
noncomputable def wbK (al : List SV) (g : Nat -> Option Ob) (new : Nat) : T Res := match al with
 | [p, .dt (.cell (.int .u8 c))] => WL g new p (fun n => Nat.ble n 100000) (fun n => n + 1) fun n f => Rx.gP n f (lV 1 [.cell (.int .u8 c)])
 | _ => .fail
noncomputable def Dn (al : List SV) : T Res := match al with
 | [.dt (.cell (.int .i64 n))] => BT (inB n n) (.ret ⟨.dt (.cell (.string ⟨(Lib.itoa n).toArray⟩)), .none⟩) .fail
 | _ => .fail
noncomputable def YI (d : Dt) (b : UInt8) : Bool := match d with
 | .cell (.int .u8 v) => eqI v b.toNat
 | _ => false
noncomputable def WU (f : Nat -> Nat -> Dt) (l : List UInt8) : Nat -> Bool := @List.rec UInt8 (fun _ => Nat -> Bool) (fun _ => true) (fun b _ ih k => aK (YI (f k 0) b) (ih (Nat.succ k))) l
noncomputable def stK (t : ByteArray) (al : List SV) (g : Nat -> Option Ob) : T Res := match al with
 | [.ptr i 5] => match g i with
   | some (.cells 187 [_, _, _, _, _, _, .nm j, _]) => match g j with
     | some (.row 5 1 n f) => BT (aK (Nat.beq n t.data.toList.length) (aK (Nat.blt 0 n) (aK (Nat.ble n 100000) (WU f t.data.toList 0)))) (.ret ⟨.sy t, ⟨[(j, none)], []⟩⟩) .fail
     | _ => .fail
   | _ => .fail
 | _ => .fail
theorem Qv : bJ prog dM (mkS fun al g new => wsK al g new) := GJ JW fun al g new post h => by
 have h : (wsK al g new).holds post := h
 show (wsR al g new).holds post
 unfold wsK at h
 unfold wsR
 split at h
 · rename_i p x
   split at h
   · rename_i s hs
     simp only [hs]
     exact Jo (fun n hn => Nat.le_of_ble_eq_true hn) h
   · exact h.elim
 · exact h.elim
theorem Qt : bJ prog fJ (mkS fun al g new => wbK al g new) := GJ JU fun al g new post h => by
 have h : (wbK al g new).holds post := h
 show (wbR al g new).holds post
 unfold wbK at h
 unfold wbR
 split at h
 · exact Jo (fun n hn => Nat.le_of_ble_eq_true hn) h
 · exact h.elim
theorem wu : bJ prog lQ (mkS fun al _ _ => Dn al) := fun C w g al vs new post hw hg hn hr hh => by
 have h : (Dn al).holds post := hh
 have h2 : (wz al).holds fun r => post ⟨.dt (.cell (.string (match r.sv with | .sy s => s | _ => noS))), r.eff⟩ := by
  unfold Dn at h
  unfold wz
  split at h
  · rename_i n
    obtain ⟨h1, h2⟩ := qU h
    simp only [h1, cond_true]
    exact h2
  · exact h.elim
 have hI := zh C w g al vs new (fun r => (∃ s, r.sv = .sy s) /\ post ⟨.dt (.cell (.string (match r.sv with | .sy s => s | _ => noS))), r.eff⟩) hw hg (fun r hp i hi => hn _ hp.2 i hi) hr (by
  show (wz al).holds _
  unfold wz at h2 ⊢
  split at h2
  · rename_i n
    cases hb : inB n n with
    | false => rw [hb] at h2; exact h2.elim
    | true => rw [hb, cond_true] at h2; rw [cond_true]; exact ⟨⟨_, rfl⟩, h2⟩
  · rename_i a b n
    cases hb : inB a b with
    | false => rw [hb] at h2; exact h2.elim
    | true => rw [hb, cond_true] at h2; rw [cond_true]; exact ⟨⟨_, rfl⟩, h2⟩
  · exact h2.elim)
 refine ⟨hI.1, hI.2.mono ?_⟩
 rintro e w' ⟨v, C', r, he, ⟨⟨s, hs⟩, hp⟩, hc⟩
 refine ⟨v, C', _, he, hp, ?_⟩
 have hv : v = .string s := by
  have := hc.rel
  rw [hs] at this
  exact this
 refine ⟨?_, hc.step, hc.wf, hc.new, hc.obs⟩
 show rel C' w' (.dt (.cell (.string (match r.sv with | .sy s => s | _ => noS)))) v
 rw [hs]
 exact aj.2 hv
theorem Jy {f : Nat -> Nat -> Dt} : ∀ {l : List UInt8} {k : Nat}, WU f l k = true -> ∀ j (h : j < l.length), f (k + j) 0 = .cell (.int .u8 (l[j].toNat))
 | [], _, _, j, h => absurd h (by simp)
 | b :: l, k, h, j, hj => by
   have h : aK (YI (f k 0) b) (WU f l (Nat.succ k)) = true := h
   obtain ⟨h1, h2⟩ := aB h
   cases j with
   | zero =>
     unfold YI at h1
     split at h1
     · rename_i v hv
       rw [Nat.add_zero, hv, yQ h1]
       rfl
     · cases h1
   | succ j =>
     have := Jy h2 j (by simpa using hj)
     rw [show k + (j + 1) = Nat.succ k + j by omega, this]
     rfl
theorem Qj (t : ByteArray) : bJ prog l8 (mkS fun al g _ => stK t al g) := GJ H8 fun al g new post h0 => by
 have h : (stK t al g).holds post := h0
 clear h0
 show (bsR al g).holds post
 unfold stK at h
 split at h
 · rename_i i
   show (Wh g (.ptr i 5)).holds post
   unfold Wh
   split at h
   · rename_i j x7 hgi
     simp only [hgi]
     split at h
     · rename_i n f hgj
       simp only [hgj]
       obtain ⟨h1, h2⟩ := qU h
       obtain ⟨e1, h1⟩ := aB h1
       obtain ⟨e2, h1⟩ := aB h1
       obtain ⟨e3, h1⟩ := aB h1
       have e1 := Nat.eq_of_beq_eq_true e1
       have e2 : 0 < n := by simpa [Nat.blt_eq] using e2
       have e3 := Nat.le_of_ble_eq_true e3
       have hq := fun j hj => Jy h1 j hj
       simp only [Nat.zero_add] at hq
       have hby : QV n f := ⟨e2, e3, fun k hk => by
        rw [hq k (by omega)]
        simp [Pm]⟩
       have hrow : (⟨(nS n f).toArray⟩ : ByteArray) = t := by
        have : nS n f = t.data.toList := by
         apply List.ext_getElem
         · rw [fC, e1]
         · intro k h1 h2
           have h3 : (nS n f)[k]? = some ((nS n f)[k]) := List.getElem?_eq_getElem h1
           rw [(Jw h3).2, hq k h2]
           simp [Pm]
        rw [this]
       exact ⟨hby, by rw [hrow]; exact h2⟩
     · exact h.elim
   · exact h.elim
 · exact h.elim
theorem aiL {xl : XL} (t : ByteArray) (hl : MOk xl) : MOk ((dM, mkS fun al g new => wsK al g new) :: (fJ, mkS fun al g new => wbK al g new) :: (lQ, mkS fun al _ _ => Dn al) :: (l8, mkS fun al g _ => stK t al g) :: xl) :=
 iB Qv (iB Qt (iB wu (iB (Qj t) hl)))
noncomputable def stC (t : ByteArray) (al : List SV) (g : Nat -> Option Ob) : Bool := match al with
 | [.ptr i 5] => match g i with
   | some (.cells 187 [_, _, _, _, _, _, .nm j, _]) => match g j with
     | some (.row 5 1 n f) => aK (Nat.beq n t.data.toList.length) (WU f t.data.toList 0)
     | _ => false
   | _ => false
 | _ => false
end Gv
set_option linter.unusedSimpArgs false
set_option linter.unusedVariables false
open Rx Go
namespace Gv
open Rd
theorem Ey {n m k : Int} (h0 : 0 < m) (h1 : m <= 1000000) (h : av n m = k) : ah prog 6 ⟨0, [any n, I m], [], I k, []⟩ := by
 refine ⟨by rfl, fun X w vs hw _ hn hr => ⟨c16, ?_⟩⟩
 obtain ⟨v, _, rfl, g1, v2, _, rfl, g2, rfl⟩ := hr
 have e1 : v = .int .i64 n := g1.1
 have e2 : v2 = .int .i64 m := g2
 subst e1; subst e2
 have i1 := g1.2.1
 have i2 := g1.2.2
 have hc := kT (Ba n m) ⟨⟨by omega, by omega⟩, by omega⟩
 refine (hc X w _ (fun y => y = _) hw (fun i ob hi => by simp at hi) (fun i hi => hn i (Nat.zero_le _)) ⟨_, _, rfl, aj.2 rfl, _, _, rfl, aj.2 rfl, rfl⟩ rfl).mono ?_
 rintro e w' ⟨v, C', y, rfl, rfl, hst, hwf, hnu, hv, _⟩
 refine ⟨v, C', id, rfl, hst.mono fun i hi => by simp at hi, hwf, fun i hi => absurd hi (Nat.not_lt_zero i), fun i hi => rfl, fun i _ hi => absurd hi (Nat.not_lt_zero i), fun i j _ hi => absurd hi (Nat.not_lt_zero i), ?_, fun t ob ht => by simp at ht⟩
 have hv := aj.1 hv
 rw [h] at hv
 exact hv
end Gv
