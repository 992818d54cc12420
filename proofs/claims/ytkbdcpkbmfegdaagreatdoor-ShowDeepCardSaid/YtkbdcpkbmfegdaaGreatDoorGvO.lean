/- What (*maker).find tells. -/
import Derived.Test.YtkbdcpkbmfegdaaGreatDoorGvN
import Derived.Test.YtkbdcpkbmfegdaaGreatDoorRxD1
import Derived.Shelf.Strings.Repeat
set_option linter.unusedSimpArgs false
set_option linter.unusedVariables false
open Rx Go
namespace Gv
open Rd
abbrev I (n : Int) : SV := .ki .i64 n
abbrev S (s : ByteArray) : SV := .dt (.cell (.string s))
abbrev J : SV := .junk
abbrev C (n : Int) : SV := .dt (.cell (.int .i64 n))
abbrev D (d : Dt) : SV := .dt d
abbrev V (i z o n : Nat) : SV := .sl i z o n none
abbrev bD : SV := .dt (.cell (.slice none 0 0))
abbrev Xm : SV := .dt (.cell (.pointer none))
def s0 : ByteArray := ⟨#[]⟩
def Kj (g : Nat -> Option Ob) : List SV -> Option (List (Nat × ByteArray))
 | [] => some []
 | v :: l => match v with
   | .ptr i 0 => match g i with
     | some (.cells _ (x :: _)) => match ni x, Kj g l with
       | some s, some r => some ((i, s) :: r)
       | _, _ => none
     | _ => none
   | _ => none
noncomputable def G7 (s : ByteArray) : List (Nat × ByteArray) -> Option Nat -> Option Nat
 | [], a => a
 | p :: l, a => G7 s l (bif KA p.2 s then some p.1 else a)
noncomputable def abf (o : Option Nat) : T Res := match o with
 | some i => .ret ⟨.ptr i 0, .none⟩
 | none => .ret ⟨Xm, .none⟩
noncomputable def Xy (g : Nat -> Option Ob) (s : ByteArray) (v : SV) : T Res := match v with
 | .sl j z a n _ => match g j with
   | some (.vec _ z' len tr _) => bif Nat.beq z 1 && (Nat.beq z' 1 && (Nat.ble (a + n) len && Nat.ble n 1000)) then (match Kj g (oO tr n a) with
     | some l => abf (G7 s l none)
     | none => .fail) else .fail
   | _ => .fail
 | .dt (.cell (.slice none 0 0)) => .ret ⟨Xm, .none⟩
 | _ => .fail
noncomputable def OA (al : List SV) (g : Nat -> Option Ob) : T Res := match al with
 | [.ptr i o, x] => match ni x with
   | some s => match g i with
     | some (.cells _ cs) => match cs[o + 6]? with
       | some v => Xy g s v
       | none => .fail
     | _ => .fail
   | none => .fail
 | _ => .fail
theorem Qe (s : ByteArray) : KA s s = true := by
 have : ∀ l : List UInt8, byE l l = true := by
  intro l
  induction l with
  | nil => rfl
  | cons x l ih =>
    show aQ (Nat.beq x.toNat x.toNat) (byE l l) = true
    rw [iM, ih, Nat.beq_refl]; rfl
 exact this _
theorem Sb {s t : ByteArray} : KA s t = true ↔ s = t := ⟨Ia, fun h => h ▸ Qe s⟩
theorem Ez (s : ByteArray) : ∀ (l : List (Nat × ByteArray)) (a : Option Nat),
  ((∀ p ∈ l, p.2 ≠ s) -> G7 s l a = a) /\ ∀ k i t, l[k]? = some (i, t) -> t = s -> (∀ (j : Nat) (p : Nat × ByteArray), k < j -> l[j]? = some p -> p.2 ≠ s) -> G7 s l a = some i
 | [], a => ⟨fun _ => rfl, fun k i t h => by simp at h⟩
 | p :: l, a => by
   obtain ⟨h1, h2⟩ := Ez s l (bif KA p.2 s then some p.1 else a)
   refine ⟨fun h => ?_, fun k i t h ht hl => ?_⟩
   · show G7 s l _ = a
     rw [h1 fun q hq => h q (by simp [hq])]
     cases hb : KA p.2 s with
     | false => rfl
     | true => exact absurd (Ia hb) (h p (by simp))
   · show G7 s l _ = some i
     cases k with
     | zero =>
       simp at h
       subst h
       rw [h1 fun q hq => by
        obtain ⟨j, hj⟩ := List.mem_iff_getElem?.1 hq
        exact hl (j + 1) q (by omega) (by simpa using hj)]
       have : KA t s = true := Sb.2 ht
       rw [this]; rfl
     | succ k => exact h2 k i t (by simpa using h) ht fun j p hj hp => hl (j + 1) p (by omega) (by simpa using hp)
theorem Hf {g : Nat -> Option Ob} : ∀ {l : List SV} {r : List (Nat × ByteArray)}, Kj g l = some r -> l.length = r.length /\ ∀ (j : Nat) v, l[j]? = some v -> ∃ i t cs x s, v = .ptr i 0 /\ g i = some (.cells t (x :: cs)) /\ ni x = some s /\ r[j]? = some (i, s)
 | [], r, h => by
   simp only [Kj, Option.some.injEq] at h
   subst h
   exact ⟨rfl, fun j v hv => by simp at hv⟩
 | v :: l, r, h => by
   unfold Kj at h
   split at h
   · rename_i i
     split at h
     · rename_i t x cs hg
       split at h
       · rename_i s r' hs hr
         injection h with h
         subst h
         obtain ⟨h1, h2⟩ := Hf hr
         refine ⟨by simp [h1], fun j v hv => ?_⟩
         cases j with
         | zero => simp at hv; subst hv; exact ⟨i, t, cs, x, s, rfl, hg, hs, rfl⟩
         | succ j =>
           obtain ⟨i', t', cs', x', s', e1, e2, e3, e4⟩ := h2 j v (by simpa using hv)
           exact ⟨i', t', cs', x', s', e1, e2, e3, by simpa using e4⟩
       · cases h
     · cases h
   · cases h
theorem bH (tr : Tr SV) : ∀ (n a : Nat), (eP tr a n).length = n
 | 0, _ => rfl
 | n + 1, a => by simp only [eP, List.length_cons, bH tr n]
theorem C8 (tr : Tr SV) : ∀ (n a k : Nat), k < n -> (eP tr a n)[k]? = some (tr.get .junk (a + k))
 | 0, _, _, h => by omega
 | n + 1, a, 0, _ => rfl
 | n + 1, a, k + 1, h => by
   simp only [eP, List.getElem?_cons_succ]
   rw [C8 tr n (a + 1) k (by omega), show a + 1 + k = a + (k + 1) by omega]
theorem acF : callable prog 137 = true := by kernel_rfl
theorem DK (bm om : Nat) (nm : ByteArray) (a : Option Addr) (len cap : Nat) (q : Nat -> Nat) (nz : Nat -> ByteArray) (hreach : len * 8 <= 140737488351232)
  (w : World) (hm : w.cell? ⟨bm, om + 6, none⟩ = some (.slice a len cap)) (hI : Go.Proofs.Tryz.Vars w.heap.size w (.slice a len cap) q len) (hq : ∀ j, j < len -> w.cell? ⟨q j, 0, none⟩ = some (.string (nz j))) :
  Calls prog 137 #[.pointer (some ⟨bm, om, none⟩), .string nm] w fun e W' =>
   ((e = .returned (.pointer none) /\ ∀ j, j < len -> nz j ≠ nm) ∨ (∃ k : Nat, k < len /\ e = .returned (.pointer (some ⟨q k, 0, none⟩)) /\ nz k = nm /\ ∀ j, k < j -> j < len -> nz j ≠ nm)) /\ RowKit.Below w.heap.size w W' :=
 callsIn_wide.1 (Go.Proofs.Tryz.V6 Fence.wide 3 trivial trivial trivial rfl (Nat.le_refl _) bm om nm a len cap q nz hreach w hm hI hq)
theorem MG : cu prog 137 (mkS fun al g _ => OA al g) := by
 intro C w g al vs new post hw hg hnew hr hh
 replace hh : (OA al g).holds post := hh
 unfold OA at hh
 split at hh
 · rename_i i o x
   split at hh
   · rename_i s hs
     split at hh
     · rename_i t cs hgi
       split at hh
       · rename_i v hv
         refine ⟨acF, ?_⟩
         obtain ⟨u, _, rfl, ⟨bm, hbm, rfl⟩, y, _, rfl, hx, rfl⟩ := hr
         have hy := jq hs hx
         subst hy
         obtain ⟨b', h1, h2, us, h3, h4⟩ := hg i _ hgi
         rw [hbm] at h2
         injection h2 with h2; injection h2 with h2; injection h2 with h2; injection h2 with h2
         subst h2
         obtain ⟨u, hu, hru⟩ := bC (o + 6) v h4 hv
         have hcell : w.cell? ⟨bm, o + 6, none⟩ = some u := by
          rw [Lib.cell_of_heap h3]
          simpa using hu
         have fin : ∀ (e : Ending) (W' : World) (sv : SV) (z : Value), RowKit.Below w.heap.size w W' -> e = .returned z -> post ⟨sv, .none⟩ -> rel C w sv z -> ∃ v C' r, e = .returned v /\ post r /\ Came C w r C' W' v := by
          intro e W' sv z hb he hp hz
          have hst : Step (fun _ => False) C w C W' := gV (vw hb)
          exact ⟨z, C, _, he, hp, aD hst _ _ hz, hst.mono fun _ h => h.elim, jd hw hst, fun k hk => .inl hk, fun k ob hk => by cases hk⟩
         unfold Xy at hh
         split at hh
         · rename_i j z a n c
           split at hh
           · rename_i t' z' len tr ex hgj
             cases hb : (Nat.beq z 1 && (Nat.beq z' 1 && (Nat.ble (a + n) len && Nat.ble n 1000))) with
             | false => rw [hb] at hh; exact hh.elim
             | true =>
               rw [hb, cond_true] at hh
               simp only [Bool.and_eq_true] at hb
               obtain ⟨q1, q2, q3, q4⟩ := hb
               have q1 := Nat.eq_of_beq_eq_true q1
               have q2 := Nat.eq_of_beq_eq_true q2
               have q3 := Nat.le_of_ble_eq_true q3
               have q4 := Nat.le_of_ble_eq_true q4
               subst q1 q2
               split at hh
               · rename_i l hl
                 obtain ⟨b, m, cc, xx, k1, rfl, k2, k3, k4, _⟩ := hru
                 obtain ⟨b2, m2, e1, e2, e3, e4, cur, e5, e6, e7⟩ := hg j _ hgj
                 rw [k1] at e2
                 injection e2 with e2; injection e2 with e2 e2'; injection e2 with e2; injection e2 with e2
                 subst e2 e2'
                 rw [oK] at hl
                 obtain ⟨l1, l2⟩ := Hf hl
                 have htl := bH tr n a
                 have htg : ∀ k, k < n -> (eP tr a n)[k]? = some (tr.get .junk (a + k)) := fun k hk => C8 tr n a k hk
                 rw [htl] at l1
                 have key : ∀ k, k < n -> ∃ i s bq, l[k]? = some (i, s) /\ C.ν i = some (.pointer (some ⟨bq, 0, none⟩)) /\ w.cell? ⟨b, xx + k, none⟩ = some (.pointer (some ⟨bq, 0, none⟩)) /\ w.cell? ⟨bq, 0, none⟩ = some (.string s) := by
                  intro k hk
                  obtain ⟨i', t2, cs2, x2, s2, f1, f2, f3, f4⟩ := l2 k _ (htg k hk)
                  obtain ⟨u2, g1, g2, g3⟩ := e7 (a + k) (by omega)
                  rw [f1] at g3
                  obtain ⟨bq, g4, rfl⟩ := g3
                  obtain ⟨b3, p1, p2, us3, p3, p4⟩ := hg i' _ f2
                  rw [g4] at p2
                  injection p2 with p2; injection p2 with p2; injection p2 with p2; injection p2 with p2
                  subst p2
                  obtain ⟨y3, r3, rfl, p5, _⟩ := p4
                  have := jq f3 p5
                  subst this
                  refine ⟨i', s2, bq, f4, g4, ?_, by rw [Lib.cell_of_heap p3]; rfl⟩
                  have hxx : xx = a := by
                   rcases k2 with k2 | k2
                   · omega
                   · omega
                  rw [hxx, Lib.cell_of_heap e5]
                  exact g1
                 let q : Nat -> Nat := fun k => match (l[k]?).bind fun p => C.ν p.1 with
                  | some (.pointer (some ad)) => ad.block
                  | _ => 0
                 let nz : Nat -> ByteArray := fun k => ((l[k]?).map (·.2)).getD s0
                 have hqk : ∀ k, k < n -> ∃ i s, l[k]? = some (i, s) /\ C.ν i = some (.pointer (some ⟨q k, 0, none⟩)) /\ w.cell? ⟨b, xx + k, none⟩ = some (.pointer (some ⟨q k, 0, none⟩)) /\ w.cell? ⟨q k, 0, none⟩ = some (.string (nz k)) /\ nz k = s := by
                  intro k hk
                  obtain ⟨i', s2, bq, f1, f2, f3, f4⟩ := key k hk
                  have hq : q k = bq := by simp only [q, f1, Option.bind_some, f2]
                  have hz : nz k = s2 := by simp only [nz, f1, Option.map_some, Option.getD_some]
                  rw [hq, hz]
                  exact ⟨i', s2, f1, f2, f3, f4, rfl⟩
                 have hblt : b < w.heap.size := (Array.getElem?_eq_some_iff.1 e5).1
                 refine (DK bm o s (some ⟨b, xx, none⟩) n cc q nz (by omega) w hcell (.inr ⟨b, xx, cc, rfl, hblt, fun k hk => by
                  obtain ⟨i', s2, f1, f2, f3, f4, f5⟩ := hqk k hk
                  exact f3⟩) fun k hk => by
                  obtain ⟨i', s2, f1, f2, f3, f4, f5⟩ := hqk k hk
                  exact f4).mono ?_
                 rintro e W' ⟨he, hbel⟩
                 obtain ⟨p1, p2⟩ := Ez s l none
                 rcases he with ⟨he, hne⟩ | ⟨k, hk, he, hke, hla⟩
                 · rw [p1 fun p hp => by
                    obtain ⟨k, hk⟩ := List.mem_iff_getElem?.1 hp
                    have hkn : k < n := by have := (List.getElem?_eq_some_iff.1 hk).1; omega
                    obtain ⟨i', s2, f1, f2, f3, f4, f5⟩ := hqk k hkn
                    have := hne k hkn
                    rw [hk] at f1; injection f1 with f1
                    rw [f1]; rw [f5] at this; exact this] at hh
                   exact fin e W' _ _ hbel he hh (ah.2 rfl)
                 · obtain ⟨i', s2, f1, f2, f3, f4, f5⟩ := hqk k hk
                   rw [p2 k i' s2 f1 (by rw [← f5]; exact hke) fun j p hj hp => by
                    have hjn : j < n := by have := (List.getElem?_eq_some_iff.1 hp).1; omega
                    obtain ⟨i3, s3, d1, d2, d3, d4, d5⟩ := hqk j hjn
                    have := hla j hj hjn
                    rw [hp] at d1; injection d1 with d1
                    rw [d1]; rw [d5] at this; exact this] at hh
                   exact fin e W' _ _ hbel he hh ⟨q k, f2, rfl⟩
               · exact hh.elim
           · exact hh.elim
         · have hu' : u = .slice none 0 0 := ah.1 hru
           subst hu'
           refine (DK bm o s none 0 0 (fun _ => 0) (fun _ => s0) (by omega) w hcell (.inl ⟨rfl, rfl⟩) fun k hk => by omega).mono ?_
           rintro e W' ⟨he, hbel⟩
           rcases he with ⟨he, _⟩ | ⟨k, hk, _⟩
           · exact fin e W' _ _ hbel he hh (ah.2 rfl)
           · omega
         · exact hh.elim
       · exact hh.elim
     · exact hh.elim
   · exact hh.elim
 · exact hh.elim
end Gv
set_option linter.unusedSimpArgs false
set_option linter.unusedVariables false
open Rx Go
namespace Gv
open Rd
noncomputable def half (l : List SV) : Bool -> List SV := @List.rec SV (fun _ => Bool -> List SV) (fun _ => []) (fun x _ ih b => @Bool.rec (fun _ => List SV) (ih true) (x :: ih false) b) l
noncomputable def tL (n : Nat) : List SV -> Tr SV := @Nat.rec (fun _ => List SV -> Tr SV) (fun _ => .nil) (fun _ ih l => @List.rec SV (fun _ => Tr SV) .nil (fun x xs _ => .node (ih (half xs true)) x (ih (half xs false))) l) n
noncomputable abbrev vc (t : TypeId) (z n : Nat) (l : List SV) (ex : Bool) : Ob := .vec t z n (tL (nat_lit 16) l) ex
abbrev TL := List (Nat × List (Nat × TE))
noncomputable def XI (tl : TL) (f : Nat) (o : Option Summ) : Option Summ := @List.rec (Nat × List (Nat × TE)) (fun _ => Option Summ) o (fun x _ ih => @Bool.rec (fun _ => Option Summ) ih (some (UO x.2)) (Nat.beq x.1 f)) tl
noncomputable def F1 (tbl : List (Nat × List Dx)) (f : FuncId) : Option Summ := @Bool.rec (fun _ => Option Summ) (F tbl f) (some (mkS fun al g _ => OA al g)) (Nat.beq f 137)
theorem Z5 (tbl : List (Nat × List Dx)) (f : FuncId) (s : Summ) (h : F1 tbl f = some s) : cu prog f s := by
 unfold F1 at h
 cases hb : Nat.beq f 137 with
 | false => rw [hb] at h; exact abd tbl f s h
 | true =>
   rw [hb] at h
   injection h with h
   subst h
   have := Nat.eq_of_beq_eq_true hb
   subst this
   exact MG
noncomputable def FT (tbl : List (Nat × List Dx)) (tl : TL) (f : FuncId) : Option Summ := XI tl f (F1 tbl f)
def TOk (tl : TL) : Prop := ∀ x ∈ tl, ∀ y ∈ x.2, ay prog x.1 y.2
theorem aJ : TOk [] := fun _ h => (by cases h)
theorem aK {x : Nat × List (Nat × TE)} {l : TL} (h : ∀ y ∈ x.2, ay prog x.1 y.2) (hl : TOk l) : TOk (x :: l) := fun y hy => by
 rcases List.mem_cons.1 hy with rfl | hy
 · exact h
 · exact hl y hy
theorem aM {f : Nat} : ∀ y ∈ ([] : List (Nat × TE)), ay prog f y.2 := fun _ h => (by cases h)
theorem aO {f : Nat} {x : Nat × TE} {l : List (Nat × TE)} (h : ay prog f x.2) (hl : ∀ y ∈ l, ay prog f y.2) : ∀ y ∈ x :: l, ay prog f y.2 := fun y hy => by
 rcases List.mem_cons.1 hy with rfl | hy
 · exact h
 · exact hl y hy
theorem Ul (tbl : List (Nat × List Dx)) : ∀ {tl : TL}, TOk tl -> ∀ f s, FT tbl tl f = some s -> cu prog f s
 | [], _, f, s, h => Z5 tbl f s h
 | x :: tl, ht, f, s, h => by
   have h : (@Bool.rec (fun _ => Option Summ) (XI tl f (F1 tbl f)) (some (UO x.2)) (Nat.beq x.1 f)) = some s := h
   cases hb : Nat.beq x.1 f with
   | true =>
     rw [hb] at h
     injection h with h
     subst h
     have := Nat.eq_of_beq_eq_true hb
     subst this
     exact L9 fun y hy => ht x (by simp) y hy
   | false =>
     rw [hb] at h
     exact Ul tbl (fun y hy => ht y (by simp [hy])) f s h
noncomputable def Xr (tbl : List (Nat × List Dx)) (tl : TL) : Deps := ⟨prog, FT tbl tl, win, 4000, fl⟩
theorem EZ (tbl : List (Nat × List Dx)) {tl : TL} (h : TOk tl) : (Xr tbl tl).Ok := ⟨Ul tbl h, mixed⟩
noncomputable def aav (tbl : List (Nat × List Dx)) (tl : TL) (f : FuncId) (e : TE) : R := Aj prog (FT tbl tl) fl win 4000 100 16000000 e.m f e.al (obT e.obs (nat_lit 0)) e.m (Lj e)
theorem tell {tbl : List (Nat × List Dx)} {tl : TL} {f : FuncId} {e : TE} (ht : TOk tl) (hok : e.ok = true) (hm : Nat.ble e.m 16000000 = true) (h : (aav tbl tl f e).holds fun y => y.1 = .kb true) : ay prog f e :=
 zQ (D := Xr tbl tl) (EZ tbl ht) hok hm (by decide) h
theorem tk {f : Nat} {l : List (Nat × TE)} {tl : TL} (h : ∀ y ∈ l, ay prog f y.2) (hl : TOk tl) : TOk ((f, l) :: tl) := aK h hl
theorem tc {f : Nat} {e : TE} {l : List (Nat × TE)} (k : Nat) (h : ay prog f e) (hl : ∀ y ∈ l, ay prog f y.2) : ∀ y ∈ (k, e) :: l, ay prog f y.2 := aO h hl
theorem adl {tl : TL} {f : FuncId} {e : TE} (tbl : List (Nat × List Dx)) (ht : TOk tl) (hok : e.ok = true) (hm : Nat.ble e.m 16000000 = true) {q : Prop} (hq : q) (h : q = (aav tbl tl f e).holds fun y => y.1 = .kb true) : ay prog f e :=
 tell ht hok hm (h ▸ hq)
noncomputable def aa2 (tbl : List (Nat × List Dx)) (tl : TL) (f : FuncId) (al : List SV) : R := Aj prog (FT tbl tl) fl win 4000 100 16000000 0 f al .nil 0 fun s _ _ => .ret (s, ⟨.nil, 0⟩)
theorem abk {tbl : List (Nat × List Dx)} {tl : TL} {f : FuncId} {al : List SV} {w : World} {vs : List Value} (ht : TOk tl) (hgl : Pers C0.W w Glob.ok) (hr : relL C0 w al vs) (h : (aa2 tbl tl f al).holds fun y => y.1 = .kb true) :
  Calls prog f vs.toArray w fun e w' => e = .returned (.bool true) /\ Same w w' := by
 have h1 := jA (EZ tbl ht) 100 16000000 0 f al .nil 0 (fun s _ _ => .ret (s, ⟨.nil, 0⟩)) (fun y => y.1 = .kb true) (fun i _ => rfl) ⟨Nat.zero_le _, by decide⟩ h
 have h2 := (dF (EZ tbl ht) 100 16000000 0 f al ⟨av .nil, 0⟩).1
 obtain ⟨_, h3⟩ := h2 C0 w vs _ ⟨Pj w hgl, fun i ob hi => (by cases hi), fun _ _ _ => rfl⟩ hr h1
 refine h3.mono ?_
 rintro e w' ⟨v, C', y, rfl, ⟨ob', _, hy⟩, hst, _, hv, _⟩
 have hy : y.1 = .kb true := hy
 rw [hy] at hv
 have hv : v = .bool true := hv
 subst hv
 refine ⟨rfl, ?_⟩
 have hst0 : Step (fun _ => False) C0 w C' w' :=
  ⟨hst.ext, hst.w0, hst.own, fun i b _ h => (by cases h), hst.ag.mono fun k _ ⟨i, _, hi⟩ => (by cases hi)⟩
 exact jY hst0
def rp (p : Prop) : Nat -> Prop -> Prop
 | 0, q => q
 | k + 1, q => p /\ rp p k q
theorem iP {p q : Prop} (h : p) : ∀ k : Nat, q -> rp p k q
 | 0, hq => hq
 | k + 1, hq => ⟨h, iP h k hq⟩
abbrev qt : Prop := (SV.kb true : SV) = .kb true
abbrev en {α : Type} (x : α) : Prop := x = x
theorem aaQ (b : ByteArray) : b.size = b.data.toList.length := rfl
theorem abV {n : Int} (h0 : 0 <= n) (h1 : n < 1000) : 0 < (jk n).size := by
 obtain ⟨b, t, e, _⟩ := Cq (Fa h0 h1).1
 rw [aaQ, e, List.length_cons]
 exact Nat.succ_pos _
theorem acN {n : Nat} {f : Nat -> Nat -> Dt} {t : List UInt8} {E : ByteArray} (h : Bld n f t) (he : E.data.toList = t) : E = ByteArray.mk (lG n f).toArray := by
 rw [Pe h, ← he]
end Gv
set_option linter.unusedSimpArgs false
set_option linter.unusedVariables false
open Rx Go
namespace Gv
open Rd
theorem bf {n m k : Int} (h0 : 0 < m) (h1 : m <= 1000000) (h : aj n m = k) : ay prog 6 ⟨0, [any n, I m], [], I k, []⟩ := by
 refine ⟨by rfl, fun X w vs hw _ hn hr => ⟨c16, ?_⟩⟩
 obtain ⟨v, _, rfl, g1, v2, _, rfl, g2, rfl⟩ := hr
 have e1 : v = .int .i64 n := g1.1
 have e2 : v2 = .int .i64 m := g2
 subst e1; subst e2
 have i1 := g1.2.1
 have i2 := g1.2.2
 have hc := lN (uT n m) ⟨⟨by omega, by omega⟩, by omega⟩
 refine (hc X w _ (fun y => y = _) hw (fun i ob hi => by simp at hi) (fun i hi => hn i (Nat.zero_le _)) ⟨_, _, rfl, ah.2 rfl, _, _, rfl, ah.2 rfl, rfl⟩ rfl).mono ?_
 rintro e w' ⟨v, C', y, rfl, rfl, hst, hwf, hnu, hv, _⟩
 refine ⟨v, C', id, rfl, hst.mono fun i hi => by simp at hi, hwf, fun i hi => absurd hi (Nat.not_lt_zero i), fun i hi => rfl, fun i _ hi => absurd hi (Nat.not_lt_zero i), fun i j _ hi => absurd hi (Nat.not_lt_zero i), ?_, fun t ob ht => by simp at ht⟩
 have hv := ah.1 hv
 rw [h] at hv
 exact hv
end Gv
set_option linter.unusedSimpArgs false
set_option linter.unusedVariables false
open Rx Go
namespace Gv
open Rd
abbrev XL := List (Nat × Summ)
noncomputable def Xb (xl : XL) (f : Nat) (o : Option Summ) : Option Summ := @List.rec (Nat × Summ) (fun _ => Option Summ) o (fun x _ ih => @Bool.rec (fun _ => Option Summ) ih (some x.2) (Nat.beq x.1 f)) xl
noncomputable def FM (tbl : List (Nat × List Dx)) (xl : XL) (tl : TL) (f : FuncId) : Option Summ := Xb xl f (FT tbl tl f)
def MOk (xl : XL) : Prop := ∀ x ∈ xl, cu prog x.1 x.2
theorem bV : MOk [] := fun _ h => (by cases h)
theorem jo {f : Nat} {s : Summ} {xl : XL} (h : cu prog f s) (hl : MOk xl) : MOk ((f, s) :: xl) := fun x hx => by
 rcases List.mem_cons.1 hx with rfl | hx
 · exact h
 · exact hl x hx
theorem abR {e : ME} (h : Rb prog 79 e) : MOk [(79, R6 [e])] := jo (JG fun y hy => by
 simp only [List.mem_cons, List.not_mem_nil, or_false] at hy
 subst hy
 exact h) bV
theorem XM (tbl : List (Nat × List Dx)) {tl : TL} (ht : TOk tl) : ∀ {xl : XL}, MOk xl -> ∀ f s, FM tbl xl tl f = some s -> cu prog f s
 | [], _, f, s, h => Ul tbl ht f s h
 | x :: xl, hm, f, s, h => by
   have h : (@Bool.rec (fun _ => Option Summ) (Xb xl f (FT tbl tl f)) (some x.2) (Nat.beq x.1 f)) = some s := h
   cases hb : Nat.beq x.1 f with
   | true =>
     rw [hb] at h
     injection h with h
     subst h
     have := Nat.eq_of_beq_eq_true hb
     subst this
     exact hm x (by simp)
   | false =>
     rw [hb] at h
     exact XM tbl ht (fun y hy => hm y (by simp [hy])) f s h
noncomputable def KM (tbl : List (Nat × List Dx)) (ml : XL) (tl : TL) : Deps := ⟨prog, FM tbl ml tl, win, 4000, fl⟩
theorem ny (tbl : List (Nat × List Dx)) {ml : XL} {tl : TL} (hm : MOk ml) (h : TOk tl) : (KM tbl ml tl).Ok := ⟨XM tbl h hm, mixed⟩
noncomputable def zZ (tbl : List (Nat × List Dx)) (ml : XL) (tl : TL) (f : FuncId) (e : TE) : R := Aj prog (FM tbl ml tl) fl win 4000 100 16000000 e.m f e.al (obT e.obs (nat_lit 0)) e.m (Lj e)
theorem bO {ml : XL} {tl : TL} {f : FuncId} {e : TE} (tbl : List (Nat × List Dx)) (hm : MOk ml) (ht : TOk tl) (hok : e.ok = true) (hb : Nat.ble e.m 16000000 = true) {q : Prop} (hq : q) (h : q = (zZ tbl ml tl f e).holds fun y => y.1 = .kb true) : ay prog f e :=
 zQ (D := KM tbl ml tl) (ny tbl hm ht) hok hb (by decide) (h ▸ hq)
noncomputable def bM (tbl : List (Nat × List Dx)) (ml : XL) (tl : TL) (f : FuncId) (al : List SV) : R := Aj prog (FM tbl ml tl) fl win 4000 100 16000000 0 f al .nil 0 fun s _ _ => .ret (s, ⟨.nil, 0⟩)
theorem bJ {tbl : List (Nat × List Dx)} {ml : XL} {tl : TL} {f : FuncId} {al : List SV} {w : World} {vs : List Value} (hm : MOk ml) (ht : TOk tl) (hgl : Pers C0.W w Glob.ok) (hr : relL C0 w al vs) (h : (bM tbl ml tl f al).holds fun y => y.1 = .kb true) :
  Calls prog f vs.toArray w fun e w' => e = .returned (.bool true) /\ Same w w' := by
 have h1 := jA (ny tbl hm ht) 100 16000000 0 f al .nil 0 (fun s _ _ => .ret (s, ⟨.nil, 0⟩)) (fun y => y.1 = .kb true) (fun i _ => rfl) ⟨Nat.zero_le _, by decide⟩ h
 have h2 := (dF (ny tbl hm ht) 100 16000000 0 f al ⟨av .nil, 0⟩).1
 obtain ⟨_, h3⟩ := h2 C0 w vs _ ⟨Pj w hgl, fun i ob hi => (by cases hi), fun _ _ _ => rfl⟩ hr h1
 refine h3.mono ?_
 rintro e w' ⟨v, C', y, rfl, ⟨ob', _, hy⟩, hst, _, hv, _⟩
 have hy : y.1 = .kb true := hy
 rw [hy] at hv
 have hv : v = .bool true := hv
 subst hv
 refine ⟨rfl, ?_⟩
 have hst0 : Step (fun _ => False) C0 w C' w' :=
  ⟨hst.ext, hst.w0, hst.own, fun i b _ h => (by cases h), hst.ag.mono fun k _ ⟨i, _, hi⟩ => (by cases hi)⟩
 exact jY hst0
noncomputable def Yv : Code := (Go.Proofs.Tryz.f79.body).getD .skip
noncomputable def EI : Code × Code := (Bu Yv).getD (.skip, .skip)
theorem Vn : Go.Proofs.Tryz.f79.body = some Yv := by kernel_rfl
theorem Tz : Bu Yv = some (EI.1, EI.2) := by kernel_rfl
theorem QT : callable prog 79 = true := by kernel_rfl
theorem Mx : Nat.ble Go.Proofs.Tryz.f79.ntmps 16777215 = true := by kernel_rfl
abbrev LT (e : ME) : Prop := zV prog Go.Proofs.Tryz.f79 EI.2 e
noncomputable def ac0 (tbl : List (Nat × List Dx)) (tl : TL) (es : List ME) (e : ME) (k : Nat) : R := abp prog (FM tbl [] tl) fl win 4000 100 16000000 79 Go.Proofs.Tryz.f79 EI.2 es e k
noncomputable def acr (tbl : List (Nat × List Dx)) (tl : TL) (es : List ME) (l : List SV) (e : ME) (k : Nat) : R := abC prog (FM tbl [] tl) fl win 4000 100 16000000 79 Go.Proofs.Tryz.f79 EI.1 EI.2 es l e k
set_option maxRecDepth 100000 in
theorem seg_lt {tl : TL} {es : List ME} {e : ME} (tbl : List (Nat × List Dx)) (ht : TOk tl) (hes : ∀ x ∈ es, LT x) (hl : ∀ x ∈ es, x.al.length = e.al.length) (hok : e.ok = true) (ha : Nat.ble e.al.length 98 = true) (hm : Nat.ble e.m 16000000 = true) (k : Nat) {q : Prop} (hq : q)
  (h : q = (ac0 tbl tl es e k).holds fun y => y.1 = .kb true) : LT e :=
 RP (D := KM tbl [] tl) (ny tbl bV ht) hes hl hok Mx ha hm (by decide) k (h ▸ hq)
set_option maxRecDepth 100000 in
theorem acG {tl : TL} {es : List ME} {l : List SV} {e : ME} (tbl : List (Nat × List Dx)) (ht : TOk tl) (hes : ∀ x ∈ es, LT x) (hl : ∀ x ∈ es, x.al.length = l.length) (hok : e.ok = true) (ha : Nat.ble e.al.length 98 = true) (hm : Nat.ble e.m 16000000 = true) (k : Nat) {q : Prop} (hq : q)
  (h : q = (acr tbl tl es l e k).holds fun y => y.1 = .kb true) : Rb prog 79 e :=
 SL (D := KM tbl [] tl) (ny tbl bV ht) Go.Proofs.Tryz.func79 Vn QT Tz hes hl hok Mx ha hm (by decide) k (h ▸ hq)
noncomputable def abb (tbl : List (Nat × List Dx)) (tl : TL) (p : Prop) (es : List ME) (e : ME) (k : Nat) : R := Xg prog (FM tbl [] tl) fl win 4000 100 16000000 79 Go.Proofs.Tryz.f79 EI.2 p es e k
set_option maxRecDepth 100000 in
theorem ab0 {tl : TL} {p : Prop} {es : List ME} {e : ME} (tbl : List (Nat × List Dx)) (ht : TOk tl) (hes : p -> ∀ x ∈ es, LT x) (hl : ∀ x ∈ es, x.al.length = e.al.length) (hok : e.ok = true) (ha : Nat.ble e.al.length 98 = true) (hm : Nat.ble e.m 16000000 = true) (k : Nat) {q : Prop} (hq : q)
  (h : q = (abb tbl tl p es e k).holds fun y => y.1 = .kb true) : LT e :=
 Qv (D := KM tbl [] tl) (ny tbl bV ht) hes hl hok Mx ha hm (by decide) k (h ▸ hq)
theorem acI {e : ME} (h : LT e) : ∀ x ∈ [e], LT x := fun x hx => by
 simp only [List.mem_cons, List.not_mem_nil, or_false] at hx
 subst hx
 exact h
theorem adp : ∀ x ∈ ([] : List ME), LT x := fun _ h => (by cases h)
theorem ab7 {e : ME} {n : Nat} (h : e.al.length = n) : ∀ x ∈ [e], x.al.length = n := fun x hx => by
 simp only [List.mem_cons, List.not_mem_nil, or_false] at hx
 subst hx
 exact h
end Gv
set_option linter.unusedSimpArgs false
set_option linter.unusedVariables false
open Rx Go
namespace Go.Proofs
open Go.Shelf
def Tryz.kU : Go.Shelf.Ren := ⟨fun | 105 => 8 | 212 => 14 | 99 => 15 | 165 => 16 | 166 => 17 | 170 => 18 | 169 => 19 | 263 => 22 | 264 => 23 | 206 => 24 | 240 => 25 | 241 => 26 | 276 => 31 | 277 => 32 | n => n, fun | 9 => 9 | 3 => 3 | 4 => 4 | 20 => 20 | 0 => 0 | 46 => 54 | 109 => 55 | 5 => 5 | 72 => 61 | 76 => 65 | 51 => 71 | 146 => 72 | 53 => 74 | 148 => 75 | 70 => 58 | 37 => 59 | 75 => 64 | 127 => 77 | 164 => 84 | 80 => 68 | n => n, fun | n => n⟩
theorem Tryz.NC : Go.Proofs.Lays.n105 Tryz.prog Tryz.kU := {
 mixed := by kernel_rfl
 f99 := Tryz.func15.trans (congrArg some (by kernel_rfl))
 f105 := Tryz.func8.trans (congrArg some (by kernel_rfl))
 f165 := Tryz.func16.trans (congrArg some (by kernel_rfl))
 f166 := Tryz.func17.trans (congrArg some (by kernel_rfl))
 f169 := Tryz.func19.trans (congrArg some (by kernel_rfl))
 f170 := Tryz.func18.trans (congrArg some (by kernel_rfl))
 f206 := Tryz.func24.trans (congrArg some (by kernel_rfl))
 f212 := Tryz.func14.trans (congrArg some (by kernel_rfl))
 f240 := Tryz.func25.trans (congrArg some (by kernel_rfl))
 f241 := Tryz.func26.trans (congrArg some (by kernel_rfl))
 f263 := Tryz.func22.trans (congrArg some (by kernel_rfl))
 f264 := Tryz.func23.trans (congrArg some (by kernel_rfl))
 f276 := Tryz.func31.trans (congrArg some (by kernel_rfl))
 f277 := Tryz.func32.trans (congrArg some (by kernel_rfl))
 t0 := Tryz.underlying0
 a0 := Tryz.isAgg0
 z0 := Tryz.sizeOf0
 v0 := Tryz.zeroValue0
 t3 := Tryz.underlying3
 a3 := Tryz.isAgg3
 z3 := Tryz.sizeOf3
 v3 := Tryz.zeroValue3
 t4 := Tryz.underlying4
 a4 := Tryz.isAgg4
 z4 := Tryz.sizeOf4
 v4 := Tryz.zeroValue4
 t5 := Tryz.underlying5
 a5 := Tryz.isAgg5
 z5 := Tryz.sizeOf5
 v5 := Tryz.zeroValue5
 t9 := Tryz.underlying9
 a9 := Tryz.isAgg9
 z9 := Tryz.sizeOf9
 v9 := Tryz.zeroValue9
 t20 := Tryz.underlying20
 a20 := Tryz.isAgg20
 z20 := Tryz.sizeOf20
 v20 := Tryz.zeroValue20
 t37 := Tryz.underlying59
 a37 := Tryz.isAgg59
 z37 := Tryz.sizeOf59
 v37 := Tryz.zeroValue59
 t46 := Tryz.underlying54
 a46 := Tryz.isAgg54
 z46 := Tryz.sizeOf54
 v46 := Tryz.zeroValue54
 t51 := Tryz.underlying71
 a51 := Tryz.isAgg71
 z51 := Tryz.sizeOf71
 v51 := Tryz.zeroValue71
 t53 := Tryz.underlying74
 a53 := Tryz.isAgg74
 z53 := Tryz.sizeOf74
 v53 := Tryz.zeroValue74
 t70 := Tryz.underlying58
 a70 := Tryz.isAgg58
 z70 := Tryz.sizeOf58
 v70 := Tryz.zeroValue58
 t72 := Tryz.underlying61
 a72 := Tryz.isAgg61
 z72 := Tryz.sizeOf61
 v72 := Tryz.zeroValue61
 t75 := Tryz.underlying64
 a75 := Tryz.isAgg64
 z75 := Tryz.sizeOf64
 v75 := Tryz.zeroValue64
 t76 := Tryz.underlying65
 a76 := Tryz.isAgg65
 z76 := Tryz.sizeOf65
 v76 := Tryz.zeroValue65
 t109 := Tryz.underlying55
 a109 := Tryz.isAgg55
 z109 := Tryz.sizeOf55
 v109 := Tryz.zeroValue55
 t127 := Tryz.underlying77
 a127 := Tryz.isAgg77
 z127 := Tryz.sizeOf77
 v127 := Tryz.zeroValue77
 t146 := Tryz.underlying72
 a146 := Tryz.isAgg72
 z146 := Tryz.sizeOf72
 v146 := Tryz.zeroValue72
 t148 := Tryz.underlying75
 a148 := Tryz.isAgg75
 z148 := Tryz.sizeOf75
 v148 := Tryz.zeroValue75
 t164 := Tryz.underlying84
 a164 := Tryz.isAgg84
 z164 := Tryz.sizeOf84
 v164 := Tryz.zeroValue84 }
theorem Tryz.adi : Builder.Extra Tryz.prog Tryz.kU where
 sizeBuilder := by kernel_rfl
 liesBuilder := by kernel_rfl
 t5 := Tryz.underlying5
 a5 := Tryz.isAgg5
 z5 := Tryz.sizeOf5
 v5 := Tryz.zeroValue5
 infoByte := by kernel_rfl
 cellsByte := by kernel_rfl
 sizeByte := by kernel_rfl
 neB5 := by decide
end Go.Proofs
namespace Gv
open Rd
def aB (s : ByteArray) (n : Int) : ByteArray := ⟨(Lib.repeatL s.data.toList n.toNat).toArray⟩
noncomputable def Wj (al : List SV) : T Res := match al with
 | [x, .dt (.cell (.int .i64 n))] => match ni x with
   | some s => bif decide (0 <= n) && (decide (n <= 1000) && Nat.ble s.size 1000) then .ret ⟨.dt (.cell (.string (aB s n))), .none⟩ else .fail
   | none => .fail
 | _ => .fail
theorem c23 : callable prog 8 = true := by kernel_rfl
theorem f23 : Go.Proofs.Tryz.kU.f 105 = 8 := by kernel_rfl
theorem Vw (s : ByteArray) (n : Int) (h0 : 0 <= n) (h1 : n <= 1000) (h2 : s.size <= 1000) : Ctr prog 8 [vS s, vI .i64 n] [] (.ret (vS (aB s n), [])) := by
 refine nE args2 fun w _ => ?_
 obtain ⟨c, rfl⟩ := Int.eq_ofNat_of_zero_le h0
 have hm : s.size * c <= 1000 * 1000 := Nat.mul_le_mul h2 (by omega)
 have h := Go.Proofs.Any.strings_Repeat Go.Proofs.Tryz.NC Go.Proofs.Tryz.adi s c w (by omega) (by omega)
 rw [f23] at h
 refine h.mono ?_
 rintro e w' ⟨rfl, hb⟩
 exact ⟨_, rfl, ⟨hb.os, hb.tape, hb.output, hb.size, fun i hi _ => hb.block i hi⟩, fun C => ah.2 rfl⟩
theorem Gz : cu prog 8 (mkS fun al _ _ => Wj al) := by
 intro C w g al vs new post hw _ _ hr hh
 replace hh : (Wj al).holds post := hh
 unfold Wj at hh
 split at hh
 · rename_i x n
   split at hh
   · rename_i s hs
     cases hb : (decide (0 <= n) && (decide (n <= 1000) && Nat.ble s.size 1000)) with
     | false => rw [hb] at hh; exact hh.elim
     | true =>
       rw [hb] at hh
       simp only [Bool.and_eq_true, decide_eq_true_eq] at hb
       obtain ⟨v, _, rfl, h1, v2, _, rfl, h2, rfl⟩ := hr
       have hv := jq hs h1
       subst hv
       rw [ah.1 h2]
       exact mO (s' := .dt (.cell (.string (aB s n)))) c23 (Vw s n hb.1 hb.2.1 (Nat.le_of_ble_eq_true hb.2.2)) hw ⟨_, _, rfl, ah.2 rfl, _, _, rfl, ah.2 rfl, rfl⟩ (fun C' w' v _ h => ah.2 (ah.1 h)) hh
   · exact hh.elim
 · exact hh.elim
noncomputable def abg : Summ := mkS fun al _ _ => Wj al
theorem abU : MOk [(8, abg)] := jo Gz bV
end Gv
set_option linter.unusedSimpArgs false
set_option linter.unusedVariables false
open Rx Go
namespace Gv
open Rd
noncomputable def NS (es : List TE) (al : List SV) (g : Nat -> Option Ob) (new : Nat) (alt : T Res) : T Res := @List.rec TE (fun _ => T Res) alt (fun x _ ih => GL x al g new ih) es
noncomputable def bP (es : List TE) : Summ := ⟨false, fun _ _ _ => [], fun al g new _ => NS es (qW al) g new .fail⟩
theorem xL {P : Program} {f : FuncId} {C : Ctx} {w : World} {g : Nat -> Option Ob} {al : List SV} {vs : List Value} {new : Nat} {alt : T Res} {post : Res -> Prop} (hw : WF C w) (hg : ObsOk C w g)
  (hnew : ∀ r, post r -> ∀ i ∈ r.eff.new, C.ν i = none) (hr : relL C w al vs) : ∀ (es : List TE), (∀ x ∈ es, ay P f x) -> (NS es al g new alt).holds post ->
  (callable P f = true /\ Calls P f vs.toArray w fun x w' => ∃ v C' r, x = .returned v /\ post r /\ Came C w r C' w' v) ∨ alt.holds post
 | [], _, h => .inr h
 | x :: es, he, h => by
   rcases zy (he x (by simp)) hw hg hnew hr (show (GL x al g new (NS es al g new alt)).holds post from h) with h | h
   · exact .inl h
   · exact xL (alt := alt) hw hg hnew hr es (fun y hy => he y (by simp [hy])) h
theorem Mg {f : FuncId} {es : List TE} (he : ∀ x ∈ es, ay prog f x) : cu prog f (bP es) := by
 intro C w g al vs new post hw hg hnew hr h
 rcases xL hw hg hnew (mM hr) es he h with h | h
 · exact h
 · exact h.elim
theorem dB {f : Nat} : ∀ y ∈ ([] : List TE), ay prog f y := fun _ h => (by cases h)
theorem ta {f : Nat} {x : TE} {l : List TE} (h : ay prog f x) (hl : ∀ y ∈ l, ay prog f y) : ∀ y ∈ x :: l, ay prog f y := fun y hy => by
 rcases List.mem_cons.1 hy with rfl | hy
 · exact h
 · exact hl y hy
theorem kS {f : Nat} {es : List TE} {xl : XL} (h : ∀ y ∈ es, ay prog f y) (hl : MOk xl) : MOk ((f, bP es) :: xl) := jo (Mg h) hl
theorem Jw {f : FuncId} {s s' : Summ} (hs : cu prog f s) (h : ∀ (al : List SV) (g : Nat -> Option Ob) (new : Nat) (post : Res -> Prop), (s'.run al g new f).holds post -> (s.run al g new f).holds post) : cu prog f s' :=
 fun C w g al vs new post hw hg hn hr hh => hs C w g al vs new post hw hg hn hr (h al g new post hh)
noncomputable def Vr (g : Nat -> Option Ob) (new : Nat) (p : SV) (ok : Nat -> Bool) (N : Nat -> Nat) (fn : Nat -> (Nat -> Nat -> Dt) -> Nat -> Nat -> Dt) : T Res := match p with
 | .ptr i 5 => match g i with
   | some (.cells 187 [x0, x1, x2, x3, x4, A, B, x7]) => bif Ns i A && Nat.blt i new then (match B with
     | .nm j => match g j with
       | some (.row 5 1 n f) => bif !Nat.beq i j && Nat.blt j new then BT (ok n) (.ret ⟨.junk, ⟨[(i, some (.cells 187 [x0, x1, x2, x3, x4, .ptr i 5, .nm new, x7])), (j, none), (new, some (.row 5 1 (N n) (fn n f)))], [new]⟩⟩) .fail else .fail
       | _ => .fail
     | .dt (.cell (.slice none 0 0)) => BT (ok 0) (.ret ⟨.junk, ⟨[(i, some (.cells 187 [x0, x1, x2, x3, x4, .ptr i 5, .nm (new + 1), x7])), (new, none), (new + 1, some (.row 5 1 (N 0) (fn 0 row0)))], [new, new + 1]⟩⟩) .fail
     | _ => .fail) else .fail
   | _ => .fail
 | _ => .fail
theorem KY {g : Nat -> Option Ob} {new : Nat} {p : SV} {okb : Nat -> Bool} {ok : Nat -> Prop} {N : Nat -> Nat} {fn : Nat -> (Nat -> Nat -> Dt) -> Nat -> Nat -> Dt} {post : Res -> Prop} (h : ∀ n, okb n = true -> ok n)
  (hh : (Vr g new p okb N fn).holds post) : (Q9 g new p ok N fn).holds post := by
 unfold Vr at hh
 unfold Q9
 split at hh
 · rename_i i
   split at hh
   · rename_i x0 x1 x2 x3 x4 A B x7 hg
     simp only [hg]
     cases hb : (Ns i A && Nat.blt i new) with
     | false => rw [hb] at hh; exact hh.elim
     | true =>
       rw [hb, cond_true] at hh
       rw [cond_true]
       split at hh
       · rename_i j
         split at hh
         · rename_i n f hgj
           simp only [hgj]
           cases hb2 : (!Nat.beq i j && Nat.blt j new) with
           | false => rw [hb2] at hh; exact hh.elim
           | true =>
             rw [hb2, cond_true] at hh
             rw [cond_true]
             exact ⟨h _ (zT hh).1, (zT hh).2⟩
         · exact hh.elim
       · exact ⟨h _ (zT hh).1, (zT hh).2⟩
       · exact hh.elim
   · exact hh.elim
 · exact hh.elim
noncomputable def wsK (al : List SV) (g : Nat -> Option Ob) (new : Nat) : T Res := match al with
 | [p, x] => match ni x with
   | some s => Vr g new p (fun n => Nat.ble (n + s.size) 100000) (fun n => n + s.size) fun n f => Rx.fH n f (Iu s)
   | none => .fail
 | _ => .fail
noncomputable def wbK (al : List SV) (g : Nat -> Option Ob) (new : Nat) : T Res := match al with
 | [p, .dt (.cell (.int .u8 c))] => Vr g new p (fun n => Nat.ble n 100000) (fun n => n + 1) fun n f => Rx.fH n f (lF 1 [.cell (.int .u8 c)])
 | _ => .fail
noncomputable def KR (al : List SV) : T Res := match al with
 | [.dt (.cell (.int .i64 n))] => BT (inB n n) (.ret ⟨.dt (.cell (.string ⟨(Lib.itoa n).toArray⟩)), .none⟩) .fail
 | _ => .fail
noncomputable def Y9 (d : Dt) (b : UInt8) : Bool := match d with
 | .cell (.int .u8 v) => eqI v b.toNat
 | _ => false
noncomputable def Yc (f : Nat -> Nat -> Dt) (l : List UInt8) : Nat -> Bool := @List.rec UInt8 (fun _ => Nat -> Bool) (fun _ => true) (fun b _ ih k => aQ (Y9 (f k 0) b) (ih (Nat.succ k))) l
noncomputable def stK (t : ByteArray) (al : List SV) (g : Nat -> Option Ob) : T Res := match al with
 | [.ptr i 5] => match g i with
   | some (.cells 187 [_, _, _, _, _, _, .nm j, _]) => match g j with
     | some (.row 5 1 n f) => BT (aQ (Nat.beq n t.data.toList.length) (aQ (Nat.blt 0 n) (aQ (Nat.ble n 100000) (Yc f t.data.toList 0)))) (.ret ⟨.sy t, ⟨[(j, none)], []⟩⟩) .fail
     | _ => .fail
   | _ => .fail
 | _ => .fail
theorem Qo : cu prog dZ (mkS fun al g new => wsK al g new) := Jw Ka fun al g new post h => by
 have h : (wsK al g new).holds post := h
 show (wsR al g new).holds post
 unfold wsK at h
 unfold wsR
 split at h
 · rename_i p x
   split at h
   · rename_i s hs
     simp only [hs]
     exact KY (fun n hn => Nat.le_of_ble_eq_true hn) h
   · exact h.elim
 · exact h.elim
theorem QI : cu prog gq (mkS fun al g new => wbK al g new) := Jw KD fun al g new post h => by
 have h : (wbK al g new).holds post := h
 show (wbR al g new).holds post
 unfold wbK at h
 unfold wbR
 split at h
 · exact KY (fun n hn => Nat.le_of_ble_eq_true hn) h
 · exact h.elim
theorem Kh : cu prog nM (mkS fun al _ _ => KR al) := fun C w g al vs new post hw hg hn hr hh => by
 have h : (KR al).holds post := hh
 have h2 : (Ac al).holds fun r => post ⟨.dt (.cell (.string (match r.sv with | .sy s => s | _ => noS))), r.eff⟩ := by
  unfold KR at h
  unfold Ac
  split at h
  · rename_i n
    obtain ⟨h1, h2⟩ := zT h
    simp only [h1, cond_true]
    exact h2
  · exact h.elim
 have hI := Cr C w g al vs new (fun r => (∃ s, r.sv = .sy s) /\ post ⟨.dt (.cell (.string (match r.sv with | .sy s => s | _ => noS))), r.eff⟩) hw hg (fun r hp i hi => hn _ hp.2 i hi) hr (by
  show (Ac al).holds _
  unfold Ac at h2 ⊢
  split at h2
  · rename_i n
    cases hb : inB n n with
    | false => rw [hb] at h2; exact h2.elim
    | true => rw [hb, cond_true] at h2; rw [cond_true]; exact ⟨⟨_, rfl⟩, h2⟩
  · rename_i a b n
    cases hb : inB a b with
    | false => rw [hb] at h2; exact h2.elim
    | true => rw [hb, cond_true] at h2; rw [cond_true]; exact ⟨⟨_, rfl⟩, h2⟩
  · exact h2.elim)
 refine ⟨hI.1, hI.2.mono ?_⟩
 rintro e w' ⟨v, C', r, he, ⟨⟨s, hs⟩, hp⟩, hc⟩
 refine ⟨v, C', _, he, hp, ?_⟩
 have hv : v = .string s := by
  have := hc.rel
  rw [hs] at this
  exact this
 refine ⟨?_, hc.step, hc.wf, hc.new, hc.obs⟩
 show rel C' w' (.dt (.cell (.string (match r.sv with | .sy s => s | _ => noS)))) v
 rw [hs]
 exact ah.2 hv
theorem Me {f : Nat -> Nat -> Dt} : ∀ {l : List UInt8} {k : Nat}, Yc f l k = true -> ∀ j (h : j < l.length), f (k + j) 0 = .cell (.int .u8 (l[j].toNat))
 | [], _, _, j, h => absurd h (by simp)
 | b :: l, k, h, j, hj => by
   have h : aQ (Y9 (f k 0) b) (Yc f l (Nat.succ k)) = true := h
   obtain ⟨h1, h2⟩ := aN h
   cases j with
   | zero =>
     unfold Y9 at h1
     split at h1
     · rename_i v hv
       rw [Nat.add_zero, hv, D7 h1]
       rfl
     · cases h1
   | succ j =>
     have := Me h2 j (by simpa using hj)
     rw [show k + (j + 1) = Nat.succ k + j by omega, this]
     rfl
theorem Q7 (t : ByteArray) : cu prog mK (mkS fun al g _ => stK t al g) := Jw K4 fun al g new post h0 => by
 have h : (stK t al g).holds post := h0
 clear h0
 show (bsR al g).holds post
 unfold stK at h
 split at h
 · rename_i i
   show (Ve g (.ptr i 5)).holds post
   unfold Ve
   split at h
   · rename_i j x7 hgi
     simp only [hgi]
     split at h
     · rename_i n f hgj
       simp only [hgj]
       obtain ⟨h1, h2⟩ := zT h
       obtain ⟨e1, h1⟩ := aN h1
       obtain ⟨e2, h1⟩ := aN h1
       obtain ⟨e3, h1⟩ := aN h1
       have e1 := Nat.eq_of_beq_eq_true e1
       have e2 : 0 < n := by simpa [Nat.blt_eq] using e2
       have e3 := Nat.le_of_ble_eq_true e3
       have hq := fun j hj => Me h1 j hj
       simp only [Nat.zero_add] at hq
       have hby : Nh n f := ⟨e2, e3, fun k hk => by
        rw [hq k (by omega)]
        simp [Ls]⟩
       have hrow : (⟨(lG n f).toArray⟩ : ByteArray) = t := by
        have : lG n f = t.data.toList := by
         apply List.ext_getElem
         · rw [fU, e1]
         · intro k h1 h2
           have h3 : (lG n f)[k]? = some ((lG n f)[k]) := List.getElem?_eq_getElem h1
           rw [(Lf h3).2, hq k h2]
           simp [Ls]
        rw [this]
       exact ⟨hby, by rw [hrow]; exact h2⟩
     · exact h.elim
   · exact h.elim
 · exact h.elim
theorem acn {xl : XL} (t : ByteArray) (hl : MOk xl) : MOk ((dZ, mkS fun al g new => wsK al g new) :: (gq, mkS fun al g new => wbK al g new) :: (nM, mkS fun al _ _ => KR al) :: (mK, mkS fun al g _ => stK t al g) :: xl) :=
 jo Qo (jo QI (jo Kh (jo (Q7 t) hl)))
end Gv
