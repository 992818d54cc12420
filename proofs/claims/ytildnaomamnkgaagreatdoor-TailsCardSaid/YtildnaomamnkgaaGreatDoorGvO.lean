/- What (*maker).find tells. -/
import Derived.Test.YtildnaomamnkgaaGreatDoorGvN
import Derived.Test.YtildnaomamnkgaaGreatDoorRxD1
set_option linter.unusedSimpArgs false
set_option linter.unusedVariables false
open Rx Go
namespace Gv
open Rd
abbrev I (n : Int) : SV := .ki .i64 n
abbrev S (s : ByteArray) : SV := .dt (.cell (.string s))
abbrev J : SV := .junk
abbrev C (n : Int) : SV := .dt (.cell (.int .i64 n))
abbrev D (d : Dt) : SV := .dt d
abbrev V (i z o n : Nat) : SV := .sl i z o n none
abbrev aC : SV := .dt (.cell (.slice none 0 0))
abbrev UG : SV := .dt (.cell (.pointer none))
def s0 : ByteArray := ⟨#[]⟩
def I4 (g : Nat -> Option Ob) : List SV -> Option (List (Nat × ByteArray))
 | [] => some []
 | v :: l => match v with
   | .ptr i 0 => match g i with
     | some (.cells _ (x :: _)) => match oC x, I4 g l with
       | some s, some r => some ((i, s) :: r)
       | _, _ => none
     | _ => none
   | _ => none
noncomputable def Dj (s : ByteArray) : List (Nat × ByteArray) -> Option Nat -> Option Nat
 | [], a => a
 | p :: l, a => Dj s l (bif IQ p.2 s then some p.1 else a)
noncomputable def Y9 (o : Option Nat) : T Res := match o with
 | some i => .ret ⟨.ptr i 0, .none⟩
 | none => .ret ⟨UG, .none⟩
noncomputable def UD (g : Nat -> Option Ob) (s : ByteArray) (v : SV) : T Res := match v with
 | .sl j z a n _ => match g j with
   | some (.vec _ z' len tr _) => bif Nat.beq z 1 && (Nat.beq z' 1 && (Nat.ble (a + n) len && Nat.ble n 1000)) then (match I4 g (nA tr n a) with
     | some l => Y9 (Dj s l none)
     | none => .fail) else .fail
   | _ => .fail
 | .dt (.cell (.slice none 0 0)) => .ret ⟨UG, .none⟩
 | _ => .fail
noncomputable def Mf (al : List SV) (g : Nat -> Option Ob) : T Res := match al with
 | [.ptr i o, x] => match oC x with
   | some s => match g i with
     | some (.cells _ cs) => match cs[o + 6]? with
       | some v => UD g s v
       | none => .fail
     | _ => .fail
   | none => .fail
 | _ => .fail
theorem Od (s : ByteArray) : IQ s s = true := by
 have : ∀ l : List UInt8, byE l l = true := by
  intro l
  induction l with
  | nil => rfl
  | cons x l ih =>
    show aN (Nat.beq x.toNat x.toNat) (byE l l) = true
    rw [gY, ih, Nat.beq_refl]; rfl
 exact this _
theorem OI {s t : ByteArray} : IQ s t = true ↔ s = t := ⟨GL, fun h => h ▸ Od s⟩
theorem BJ (s : ByteArray) : ∀ (l : List (Nat × ByteArray)) (a : Option Nat),
  ((∀ p ∈ l, p.2 ≠ s) -> Dj s l a = a) /\ ∀ k i t, l[k]? = some (i, t) -> t = s -> (∀ (j : Nat) (p : Nat × ByteArray), k < j -> l[j]? = some p -> p.2 ≠ s) -> Dj s l a = some i
 | [], a => ⟨fun _ => rfl, fun k i t h => by simp at h⟩
 | p :: l, a => by
   obtain ⟨h1, h2⟩ := BJ s l (bif IQ p.2 s then some p.1 else a)
   refine ⟨fun h => ?_, fun k i t h ht hl => ?_⟩
   · show Dj s l _ = a
     rw [h1 fun q hq => h q (by simp [hq])]
     cases hb : IQ p.2 s with
     | false => rfl
     | true => exact absurd (GL hb) (h p (by simp))
   · show Dj s l _ = some i
     cases k with
     | zero =>
       simp at h
       subst h
       rw [h1 fun q hq => by
        obtain ⟨j, hj⟩ := List.mem_iff_getElem?.1 hq
        exact hl (j + 1) q (by omega) (by simpa using hj)]
       have : IQ t s = true := OI.2 ht
       rw [this]; rfl
     | succ k => exact h2 k i t (by simpa using h) ht fun j p hj hp => hl (j + 1) p (by omega) (by simpa using hp)
theorem DR {g : Nat -> Option Ob} : ∀ {l : List SV} {r : List (Nat × ByteArray)}, I4 g l = some r -> l.length = r.length /\ ∀ (j : Nat) v, l[j]? = some v -> ∃ i t cs x s, v = .ptr i 0 /\ g i = some (.cells t (x :: cs)) /\ oC x = some s /\ r[j]? = some (i, s)
 | [], r, h => by
   simp only [I4, Option.some.injEq] at h
   subst h
   exact ⟨rfl, fun j v hv => by simp at hv⟩
 | v :: l, r, h => by
   unfold I4 at h
   split at h
   · rename_i i
     split at h
     · rename_i t x cs hg
       split at h
       · rename_i s r' hs hr
         injection h with h
         subst h
         obtain ⟨h1, h2⟩ := DR hr
         refine ⟨by simp [h1], fun j v hv => ?_⟩
         cases j with
         | zero => simp at hv; subst hv; exact ⟨i, t, cs, x, s, rfl, hg, hs, rfl⟩
         | succ j =>
           obtain ⟨i', t', cs', x', s', e1, e2, e3, e4⟩ := h2 j v (by simpa using hv)
           exact ⟨i', t', cs', x', s', e1, e2, e3, by simpa using e4⟩
       · cases h
     · cases h
   · cases h
theorem bn (tr : Tr SV) : ∀ (n a : Nat), (eD tr a n).length = n
 | 0, _ => rfl
 | n + 1, a => by simp only [eD, List.length_cons, bn tr n]
theorem zM (tr : Tr SV) : ∀ (n a k : Nat), k < n -> (eD tr a n)[k]? = some (tr.get .junk (a + k))
 | 0, _, _, h => by omega
 | n + 1, a, 0, _ => rfl
 | n + 1, a, k + 1, h => by
   simp only [eD, List.getElem?_cons_succ]
   rw [zM tr n (a + 1) k (by omega), show a + 1 + k = a + (k + 1) by omega]
theorem aaD : callable prog 126 = true := by kernel_rfl
theorem AJ (bm om : Nat) (nm : ByteArray) (a : Option Addr) (len cap : Nat) (q : Nat -> Nat) (nz : Nat -> ByteArray) (hreach : len * 8 <= 140737488351232)
  (w : World) (hm : w.cell? ⟨bm, om + 6, none⟩ = some (.slice a len cap)) (hI : Go.Proofs.Tryz.Vars w.heap.size w (.slice a len cap) q len) (hq : ∀ j, j < len -> w.cell? ⟨q j, 0, none⟩ = some (.string (nz j))) :
  Calls prog 126 #[.pointer (some ⟨bm, om, none⟩), .string nm] w fun e W' =>
   ((e = .returned (.pointer none) /\ ∀ j, j < len -> nz j ≠ nm) ∨ (∃ k : Nat, k < len /\ e = .returned (.pointer (some ⟨q k, 0, none⟩)) /\ nz k = nm /\ ∀ j, k < j -> j < len -> nz j ≠ nm)) /\ RowKit.Below w.heap.size w W' :=
 callsIn_wide.1 (Go.Proofs.Tryz.SA Fence.wide 3 trivial trivial trivial rfl (Nat.le_refl _) bm om nm a len cap q nz hreach w hm hI hq)
theorem K6 : fA prog 126 (mkS fun al g _ => Mf al g) := by
 intro C w g al vs new post hw hg hnew hr hh
 replace hh : (Mf al g).holds post := hh
 unfold Mf at hh
 split at hh
 · rename_i i o x
   split at hh
   · rename_i s hs
     split at hh
     · rename_i t cs hgi
       split at hh
       · rename_i v hv
         refine ⟨aaD, ?_⟩
         obtain ⟨u, _, rfl, ⟨bm, hbm, rfl⟩, y, _, rfl, hx, rfl⟩ := hr
         have hy := jZ hs hx
         subst hy
         obtain ⟨b', h1, h2, us, h3, h4⟩ := hg i _ hgi
         rw [hbm] at h2
         injection h2 with h2; injection h2 with h2; injection h2 with h2; injection h2 with h2
         subst h2
         obtain ⟨u, hu, hru⟩ := bg (o + 6) v h4 hv
         have hcell : w.cell? ⟨bm, o + 6, none⟩ = some u := by
          rw [Lib.cell_of_heap h3]
          simpa using hu
         have fin : ∀ (e : Ending) (W' : World) (sv : SV) (z : Value), RowKit.Below w.heap.size w W' -> e = .returned z -> post ⟨sv, .none⟩ -> rel C w sv z -> ∃ v C' r, e = .returned v /\ post r /\ Came C w r C' W' v := by
          intro e W' sv z hb he hp hz
          have hst : Step (fun _ => False) C w C W' := gK (uZ hb)
          exact ⟨z, C, _, he, hp, aB hst _ _ hz, hst.mono fun _ h => h.elim, iW hw hst, fun k hk => .inl hk, fun k ob hk => by cases hk⟩
         unfold UD at hh
         split at hh
         · rename_i j z a n c
           split at hh
           · rename_i t' z' len tr ex hgj
             cases hb : (Nat.beq z 1 && (Nat.beq z' 1 && (Nat.ble (a + n) len && Nat.ble n 1000))) with
             | false => rw [hb] at hh; exact hh.elim
             | true =>
               rw [hb, cond_true] at hh
               simp only [Bool.and_eq_true] at hb
               obtain ⟨q1, q2, q3, q4⟩ := hb
               have q1 := Nat.eq_of_beq_eq_true q1
               have q2 := Nat.eq_of_beq_eq_true q2
               have q3 := Nat.le_of_ble_eq_true q3
               have q4 := Nat.le_of_ble_eq_true q4
               subst q1 q2
               split at hh
               · rename_i l hl
                 obtain ⟨b, m, cc, xx, k1, rfl, k2, k3, k4, _⟩ := hru
                 obtain ⟨b2, m2, e1, e2, e3, e4, cur, e5, e6, e7⟩ := hg j _ hgj
                 rw [k1] at e2
                 injection e2 with e2; injection e2 with e2 e2'; injection e2 with e2; injection e2 with e2
                 subst e2 e2'
                 rw [nT] at hl
                 obtain ⟨l1, l2⟩ := DR hl
                 have htl := bn tr n a
                 have htg : ∀ k, k < n -> (eD tr a n)[k]? = some (tr.get .junk (a + k)) := fun k hk => zM tr n a k hk
                 rw [htl] at l1
                 have key : ∀ k, k < n -> ∃ i s bq, l[k]? = some (i, s) /\ C.ν i = some (.pointer (some ⟨bq, 0, none⟩)) /\ w.cell? ⟨b, xx + k, none⟩ = some (.pointer (some ⟨bq, 0, none⟩)) /\ w.cell? ⟨bq, 0, none⟩ = some (.string s) := by
                  intro k hk
                  obtain ⟨i', t2, cs2, x2, s2, f1, f2, f3, f4⟩ := l2 k _ (htg k hk)
                  obtain ⟨u2, g1, g2, g3⟩ := e7 (a + k) (by omega)
                  rw [f1] at g3
                  obtain ⟨bq, g4, rfl⟩ := g3
                  obtain ⟨b3, p1, p2, us3, p3, p4⟩ := hg i' _ f2
                  rw [g4] at p2
                  injection p2 with p2; injection p2 with p2; injection p2 with p2; injection p2 with p2
                  subst p2
                  obtain ⟨y3, r3, rfl, p5, _⟩ := p4
                  have := jZ f3 p5
                  subst this
                  refine ⟨i', s2, bq, f4, g4, ?_, by rw [Lib.cell_of_heap p3]; rfl⟩
                  have hxx : xx = a := by
                   rcases k2 with k2 | k2
                   · omega
                   · omega
                  rw [hxx, Lib.cell_of_heap e5]
                  exact g1
                 let q : Nat -> Nat := fun k => match (l[k]?).bind fun p => C.ν p.1 with
                  | some (.pointer (some ad)) => ad.block
                  | _ => 0
                 let nz : Nat -> ByteArray := fun k => ((l[k]?).map (·.2)).getD s0
                 have hqk : ∀ k, k < n -> ∃ i s, l[k]? = some (i, s) /\ C.ν i = some (.pointer (some ⟨q k, 0, none⟩)) /\ w.cell? ⟨b, xx + k, none⟩ = some (.pointer (some ⟨q k, 0, none⟩)) /\ w.cell? ⟨q k, 0, none⟩ = some (.string (nz k)) /\ nz k = s := by
                  intro k hk
                  obtain ⟨i', s2, bq, f1, f2, f3, f4⟩ := key k hk
                  have hq : q k = bq := by simp only [q, f1, Option.bind_some, f2]
                  have hz : nz k = s2 := by simp only [nz, f1, Option.map_some, Option.getD_some]
                  rw [hq, hz]
                  exact ⟨i', s2, f1, f2, f3, f4, rfl⟩
                 have hblt : b < w.heap.size := (Array.getElem?_eq_some_iff.1 e5).1
                 refine (AJ bm o s (some ⟨b, xx, none⟩) n cc q nz (by omega) w hcell (.inr ⟨b, xx, cc, rfl, hblt, fun k hk => by
                  obtain ⟨i', s2, f1, f2, f3, f4, f5⟩ := hqk k hk
                  exact f3⟩) fun k hk => by
                  obtain ⟨i', s2, f1, f2, f3, f4, f5⟩ := hqk k hk
                  exact f4).mono ?_
                 rintro e W' ⟨he, hbel⟩
                 obtain ⟨p1, p2⟩ := BJ s l none
                 rcases he with ⟨he, hne⟩ | ⟨k, hk, he, hke, hla⟩
                 · rw [p1 fun p hp => by
                    obtain ⟨k, hk⟩ := List.mem_iff_getElem?.1 hp
                    have hkn : k < n := by have := (List.getElem?_eq_some_iff.1 hk).1; omega
                    obtain ⟨i', s2, f1, f2, f3, f4, f5⟩ := hqk k hkn
                    have := hne k hkn
                    rw [hk] at f1; injection f1 with f1
                    rw [f1]; rw [f5] at this; exact this] at hh
                   exact fin e W' _ _ hbel he hh (ah.2 rfl)
                 · obtain ⟨i', s2, f1, f2, f3, f4, f5⟩ := hqk k hk
                   rw [p2 k i' s2 f1 (by rw [← f5]; exact hke) fun j p hj hp => by
                    have hjn : j < n := by have := (List.getElem?_eq_some_iff.1 hp).1; omega
                    obtain ⟨i3, s3, d1, d2, d3, d4, d5⟩ := hqk j hjn
                    have := hla j hj hjn
                    rw [hp] at d1; injection d1 with d1
                    rw [d1]; rw [d5] at this; exact this] at hh
                   exact fin e W' _ _ hbel he hh ⟨q k, f2, rfl⟩
               · exact hh.elim
           · exact hh.elim
         · have hu' : u = .slice none 0 0 := ah.1 hru
           subst hu'
           refine (AJ bm o s none 0 0 (fun _ => 0) (fun _ => s0) (by omega) w hcell (.inl ⟨rfl, rfl⟩) fun k hk => by omega).mono ?_
           rintro e W' ⟨he, hbel⟩
           rcases he with ⟨he, _⟩ | ⟨k, hk, _⟩
           · exact fin e W' _ _ hbel he hh (ah.2 rfl)
           · omega
         · exact hh.elim
       · exact hh.elim
     · exact hh.elim
   · exact hh.elim
 · exact hh.elim
end Gv
set_option linter.unusedSimpArgs false
set_option linter.unusedVariables false
open Rx Go
namespace Gv
open Rd
noncomputable def half (l : List SV) : Bool -> List SV := @List.rec SV (fun _ => Bool -> List SV) (fun _ => []) (fun x _ ih b => @Bool.rec (fun _ => List SV) (ih true) (x :: ih false) b) l
noncomputable def tL (n : Nat) : List SV -> Tr SV := @Nat.rec (fun _ => List SV -> Tr SV) (fun _ => .nil) (fun _ ih l => @List.rec SV (fun _ => Tr SV) .nil (fun x xs _ => .node (ih (half xs true)) x (ih (half xs false))) l) n
noncomputable abbrev vc (t : TypeId) (z n : Nat) (l : List SV) (ex : Bool) : Ob := .vec t z n (tL (nat_lit 16) l) ex
abbrev TL := List (Nat × List (Nat × TE))
noncomputable def Vi (tl : TL) (f : Nat) (o : Option Summ) : Option Summ := @List.rec (Nat × List (Nat × TE)) (fun _ => Option Summ) o (fun x _ ih => @Bool.rec (fun _ => Option Summ) ih (some (P6 x.2)) (Nat.beq x.1 f)) tl
noncomputable def F1 (tbl : List (Nat × List Dx)) (f : FuncId) : Option Summ := @Bool.rec (fun _ => Option Summ) (F tbl f) (some (mkS fun al g _ => Mf al g)) (Nat.beq f 126)
theorem XI (tbl : List (Nat × List Dx)) (f : FuncId) (s : Summ) (h : F1 tbl f = some s) : fA prog f s := by
 unfold F1 at h
 cases hb : Nat.beq f 126 with
 | false => rw [hb] at h; exact YV tbl f s h
 | true =>
   rw [hb] at h
   injection h with h
   subst h
   have := Nat.eq_of_beq_eq_true hb
   subst this
   exact K6
noncomputable def FT (tbl : List (Nat × List Dx)) (tl : TL) (f : FuncId) : Option Summ := Vi tl f (F1 tbl f)
def TOk (tl : TL) : Prop := ∀ x ∈ tl, ∀ y ∈ x.2, bS prog x.1 y.2
theorem aI : TOk [] := fun _ h => (by cases h)
theorem pI {x : Nat × List (Nat × TE)} {l : TL} (h : ∀ y ∈ x.2, bS prog x.1 y.2) (hl : TOk l) : TOk (x :: l) := fun y hy => by
 rcases List.mem_cons.1 hy with rfl | hy
 · exact h
 · exact hl y hy
theorem aA {f : Nat} : ∀ y ∈ ([] : List (Nat × TE)), bS prog f y.2 := fun _ h => (by cases h)
theorem jO {f : Nat} {x : Nat × TE} {l : List (Nat × TE)} (h : bS prog f x.2) (hl : ∀ y ∈ l, bS prog f y.2) : ∀ y ∈ x :: l, bS prog f y.2 := fun y hy => by
 rcases List.mem_cons.1 hy with rfl | hy
 · exact h
 · exact hl y hy
theorem P5 (tbl : List (Nat × List Dx)) : ∀ {tl : TL}, TOk tl -> ∀ f s, FT tbl tl f = some s -> fA prog f s
 | [], _, f, s, h => XI tbl f s h
 | x :: tl, ht, f, s, h => by
   have h : (@Bool.rec (fun _ => Option Summ) (Vi tl f (F1 tbl f)) (some (P6 x.2)) (Nat.beq x.1 f)) = some s := h
   cases hb : Nat.beq x.1 f with
   | true =>
     rw [hb] at h
     injection h with h
     subst h
     have := Nat.eq_of_beq_eq_true hb
     subst this
     exact Jw fun y hy => ht x (by simp) y hy
   | false =>
     rw [hb] at h
     exact P5 tbl (fun y hy => ht y (by simp [hy])) f s h
noncomputable def UW (tbl : List (Nat × List Dx)) (tl : TL) : Deps := ⟨prog, FT tbl tl, win, 4000, fl⟩
theorem y8 (tbl : List (Nat × List Dx)) {tl : TL} (h : TOk tl) : (UW tbl tl).Ok := ⟨P5 tbl h, mixed⟩
noncomputable def ZB (tbl : List (Nat × List Dx)) (tl : TL) (f : FuncId) (e : TE) : R := xY prog (FT tbl tl) fl win 4000 100 16000000 e.m f e.al (obT e.obs (nat_lit 0)) e.m (Ja e)
theorem tell {tbl : List (Nat × List Dx)} {tl : TL} {f : FuncId} {e : TE} (ht : TOk tl) (hok : e.ok = true) (hm : Nat.ble e.m 16000000 = true) (h : (ZB tbl tl f e).holds fun y => y.1 = .kb true) : bS prog f e :=
 xg (D := UW tbl tl) (y8 tbl ht) hok hm (by decide) h
theorem tk {f : Nat} {l : List (Nat × TE)} {tl : TL} (h : ∀ y ∈ l, bS prog f y.2) (hl : TOk tl) : TOk ((f, l) :: tl) := pI h hl
theorem tc {f : Nat} {e : TE} {l : List (Nat × TE)} (k : Nat) (h : bS prog f e) (hl : ∀ y ∈ l, bS prog f y.2) : ∀ y ∈ (k, e) :: l, bS prog f y.2 := jO h hl
theorem bZ {tl : TL} {f : FuncId} {e : TE} (tbl : List (Nat × List Dx)) (ht : TOk tl) (hok : e.ok = true) (hm : Nat.ble e.m 16000000 = true) {q : Prop} (hq : q) (h : q = (ZB tbl tl f e).holds fun y => y.1 = .kb true) : bS prog f e :=
 tell ht hok hm (h ▸ hq)
noncomputable def JB (tbl : List (Nat × List Dx)) (tl : TL) (f : FuncId) (al : List SV) : R := xY prog (FT tbl tl) fl win 4000 100 16000000 0 f al .nil 0 fun s _ _ => .ret (s, ⟨.nil, 0⟩)
theorem JN {tbl : List (Nat × List Dx)} {tl : TL} {f : FuncId} {al : List SV} {w : World} {vs : List Value} (ht : TOk tl) (hgl : Pers C0.W w Glob.ok) (hr : relL C0 w al vs) (h : (JB tbl tl f al).holds fun y => y.1 = .kb true) :
  Calls prog f vs.toArray w fun e w' => e = .returned (.bool true) /\ Same w w' := by
 have h1 := jc (y8 tbl ht) 100 16000000 0 f al .nil 0 (fun s _ _ => .ret (s, ⟨.nil, 0⟩)) (fun y => y.1 = .kb true) (fun i _ => rfl) ⟨Nat.zero_le _, by decide⟩ h
 have h2 := (cK (y8 tbl ht) 100 16000000 0 f al ⟨au .nil, 0⟩).1
 obtain ⟨_, h3⟩ := h2 C0 w vs _ ⟨MU w hgl, fun i ob hi => (by cases hi), fun _ _ _ => rfl⟩ hr h1
 refine h3.mono ?_
 rintro e w' ⟨v, C', y, rfl, ⟨ob', _, hy⟩, hst, _, hv, _⟩
 have hy : y.1 = .kb true := hy
 rw [hy] at hv
 have hv : v = .bool true := hv
 subst hv
 refine ⟨rfl, ?_⟩
 have hst0 : Step (fun _ => False) C0 w C' w' :=
  ⟨hst.ext, hst.w0, hst.own, fun i b _ h => (by cases h), hst.ag.mono fun k _ ⟨i, _, hi⟩ => (by cases hi)⟩
 exact jG hst0
def rp (p : Prop) : Nat -> Prop -> Prop
 | 0, q => q
 | k + 1, q => p /\ rp p k q
theorem dV {p q : Prop} (h : p) : ∀ k : Nat, q -> rp p k q
 | 0, hq => hq
 | k + 1, hq => ⟨h, dV h k hq⟩
abbrev qt : Prop := (SV.kb true : SV) = .kb true
abbrev en {α : Type} (x : α) : Prop := x = x
theorem Y5 (b : ByteArray) : b.size = b.data.toList.length := rfl
theorem Ub {n : Int} (h0 : 0 <= n) (h1 : n < 1000) : 0 < (bG n).size := by
 obtain ⟨b, t, e, _⟩ := Bo (zF h0 h1).1
 rw [Y5, e, List.length_cons]
 exact Nat.succ_pos _
theorem O1 {n : Nat} {f : Nat -> Nat -> Dt} {t : List UInt8} {E : ByteArray} (h : Bld n f t) (he : E.data.toList = t) : E = ByteArray.mk (mG n f).toArray := by
 rw [LA h, ← he]
end Gv
set_option linter.unusedSimpArgs false
set_option linter.unusedVariables false
open Rx Go
namespace Gv
open Rd
abbrev XL := List (Nat × Summ)
noncomputable def UR (xl : XL) (f : Nat) (o : Option Summ) : Option Summ := @List.rec (Nat × Summ) (fun _ => Option Summ) o (fun x _ ih => @Bool.rec (fun _ => Option Summ) ih (some x.2) (Nat.beq x.1 f)) xl
noncomputable def FM (tbl : List (Nat × List Dx)) (xl : XL) (tl : TL) (f : FuncId) : Option Summ := UR xl f (FT tbl tl f)
def MOk (xl : XL) : Prop := ∀ x ∈ xl, fA prog x.1 x.2
theorem yD : MOk [] := fun _ h => (by cases h)
theorem Qf {f : Nat} {s : Summ} {xl : XL} (h : fA prog f s) (hl : MOk xl) : MOk ((f, s) :: xl) := fun x hx => by
 rcases List.mem_cons.1 hx with rfl | hx
 · exact h
 · exact hl x hx
theorem yK {e : ME} (h : xU prog 67 e) : MOk [(67, O5 [e])] := Qf (Gt fun y hy => by
 simp only [List.mem_cons, List.not_mem_nil, or_false] at hy
 subst hy
 exact h) yD
theorem UU (tbl : List (Nat × List Dx)) {tl : TL} (ht : TOk tl) : ∀ {xl : XL}, MOk xl -> ∀ f s, FM tbl xl tl f = some s -> fA prog f s
 | [], _, f, s, h => P5 tbl ht f s h
 | x :: xl, hm, f, s, h => by
   have h : (@Bool.rec (fun _ => Option Summ) (UR xl f (FT tbl tl f)) (some x.2) (Nat.beq x.1 f)) = some s := h
   cases hb : Nat.beq x.1 f with
   | true =>
     rw [hb] at h
     injection h with h
     subst h
     have := Nat.eq_of_beq_eq_true hb
     subst this
     exact hm x (by simp)
   | false =>
     rw [hb] at h
     exact UU tbl ht (fun y hy => hm y (by simp [hy])) f s h
noncomputable def JM (tbl : List (Nat × List Dx)) (ml : XL) (tl : TL) : Deps := ⟨prog, FM tbl ml tl, win, 4000, fl⟩
theorem mO (tbl : List (Nat × List Dx)) {ml : XL} {tl : TL} (hm : MOk ml) (h : TOk tl) : (JM tbl ml tl).Ok := ⟨UU tbl h hm, mixed⟩
noncomputable def ZG (tbl : List (Nat × List Dx)) (ml : XL) (tl : TL) (f : FuncId) (e : TE) : R := xY prog (FM tbl ml tl) fl win 4000 100 16000000 e.m f e.al (obT e.obs (nat_lit 0)) e.m (Ja e)
theorem Gr {ml : XL} {tl : TL} {f : FuncId} {e : TE} (tbl : List (Nat × List Dx)) (hm : MOk ml) (ht : TOk tl) (hok : e.ok = true) (hb : Nat.ble e.m 16000000 = true) {q : Prop} (hq : q) (h : q = (ZG tbl ml tl f e).holds fun y => y.1 = .kb true) : bS prog f e :=
 xg (D := JM tbl ml tl) (mO tbl hm ht) hok hb (by decide) (h ▸ hq)
noncomputable def Zo (tbl : List (Nat × List Dx)) (ml : XL) (tl : TL) (f : FuncId) (al : List SV) : R := xY prog (FM tbl ml tl) fl win 4000 100 16000000 0 f al .nil 0 fun s _ _ => .ret (s, ⟨.nil, 0⟩)
theorem XT {tbl : List (Nat × List Dx)} {ml : XL} {tl : TL} {f : FuncId} {al : List SV} {w : World} {vs : List Value} (hm : MOk ml) (ht : TOk tl) (hgl : Pers C0.W w Glob.ok) (hr : relL C0 w al vs) (h : (Zo tbl ml tl f al).holds fun y => y.1 = .kb true) :
  Calls prog f vs.toArray w fun e w' => e = .returned (.bool true) /\ Same w w' := by
 have h1 := jc (mO tbl hm ht) 100 16000000 0 f al .nil 0 (fun s _ _ => .ret (s, ⟨.nil, 0⟩)) (fun y => y.1 = .kb true) (fun i _ => rfl) ⟨Nat.zero_le _, by decide⟩ h
 have h2 := (cK (mO tbl hm ht) 100 16000000 0 f al ⟨au .nil, 0⟩).1
 obtain ⟨_, h3⟩ := h2 C0 w vs _ ⟨MU w hgl, fun i ob hi => (by cases hi), fun _ _ _ => rfl⟩ hr h1
 refine h3.mono ?_
 rintro e w' ⟨v, C', y, rfl, ⟨ob', _, hy⟩, hst, _, hv, _⟩
 have hy : y.1 = .kb true := hy
 rw [hy] at hv
 have hv : v = .bool true := hv
 subst hv
 refine ⟨rfl, ?_⟩
 have hst0 : Step (fun _ => False) C0 w C' w' :=
  ⟨hst.ext, hst.w0, hst.own, fun i b _ h => (by cases h), hst.ag.mono fun k _ ⟨i, _, hi⟩ => (by cases hi)⟩
 exact jG hst0
noncomputable def VT : Code := (Go.Proofs.Tryz.f67.body).getD .skip
noncomputable def AP : Code × Code := (yZ VT).getD (.skip, .skip)
theorem Ua : Go.Proofs.Tryz.f67.body = some VT := by kernel_rfl
theorem OU : yZ VT = some (AP.1, AP.2) := by kernel_rfl
theorem NI : callable prog 67 = true := by kernel_rfl
theorem JR : Nat.ble Go.Proofs.Tryz.f67.ntmps 16777215 = true := by kernel_rfl
abbrev LT (e : ME) : Prop := wX prog Go.Proofs.Tryz.f67 AP.2 e
noncomputable def FB (tbl : List (Nat × List Dx)) (tl : TL) (es : List ME) (e : ME) (k : Nat) : R := Yp prog (FM tbl [] tl) fl win 4000 100 16000000 67 Go.Proofs.Tryz.f67 AP.2 es e k
noncomputable def abD (tbl : List (Nat × List Dx)) (tl : TL) (es : List ME) (l : List SV) (e : ME) (k : Nat) : R := ZK prog (FM tbl [] tl) fl win 4000 100 16000000 67 Go.Proofs.Tryz.f67 AP.1 AP.2 es l e k
set_option maxRecDepth 100000 in
theorem seg_lt {tl : TL} {es : List ME} {e : ME} (tbl : List (Nat × List Dx)) (ht : TOk tl) (hes : ∀ x ∈ es, LT x) (hl : ∀ x ∈ es, x.al.length = e.al.length) (hok : e.ok = true) (ha : Nat.ble e.al.length 98 = true) (hm : Nat.ble e.m 16000000 = true) (k : Nat) {q : Prop} (hq : q)
  (h : q = (FB tbl tl es e k).holds fun y => y.1 = .kb true) : LT e :=
 Q8 (D := JM tbl [] tl) (mO tbl yD ht) hes hl hok JR ha hm (by decide) k (h ▸ hq)
set_option maxRecDepth 100000 in
theorem KF {tl : TL} {es : List ME} {l : List SV} {e : ME} (tbl : List (Nat × List Dx)) (ht : TOk tl) (hes : ∀ x ∈ es, LT x) (hl : ∀ x ∈ es, x.al.length = l.length) (hok : e.ok = true) (ha : Nat.ble e.al.length 98 = true) (hm : Nat.ble e.m 16000000 = true) (k : Nat) {q : Prop} (hq : q)
  (h : q = (abD tbl tl es l e k).holds fun y => y.1 = .kb true) : xU prog 67 e :=
 QF (D := JM tbl [] tl) (mO tbl yD ht) Go.Proofs.Tryz.func67 Ua NI OU hes hl hok JR ha hm (by decide) k (h ▸ hq)
noncomputable def YG (tbl : List (Nat × List Dx)) (tl : TL) (p : Prop) (es : List ME) (e : ME) (k : Nat) : R := UY prog (FM tbl [] tl) fl win 4000 100 16000000 67 Go.Proofs.Tryz.f67 AP.2 p es e k
set_option maxRecDepth 100000 in
theorem SI {tl : TL} {p : Prop} {es : List ME} {e : ME} (tbl : List (Nat × List Dx)) (ht : TOk tl) (hes : p -> ∀ x ∈ es, LT x) (hl : ∀ x ∈ es, x.al.length = e.al.length) (hok : e.ok = true) (ha : Nat.ble e.al.length 98 = true) (hm : Nat.ble e.m 16000000 = true) (k : Nat) {q : Prop} (hq : q)
  (h : q = (YG tbl tl p es e k).holds fun y => y.1 = .kb true) : LT e :=
 NQ (D := JM tbl [] tl) (mO tbl yD ht) hes hl hok JR ha hm (by decide) k (h ▸ hq)
theorem pR {e : ME} (h : LT e) : ∀ x ∈ [e], LT x := fun x hx => by
 simp only [List.mem_cons, List.not_mem_nil, or_false] at hx
 subst hx
 exact h
theorem QW : ∀ x ∈ ([] : List ME), LT x := fun _ h => (by cases h)
theorem kZ {e : ME} {n : Nat} (h : e.al.length = n) : ∀ x ∈ [e], x.al.length = n := fun x hx => by
 simp only [List.mem_cons, List.not_mem_nil, or_false] at hx
 subst hx
 exact h
end Gv
