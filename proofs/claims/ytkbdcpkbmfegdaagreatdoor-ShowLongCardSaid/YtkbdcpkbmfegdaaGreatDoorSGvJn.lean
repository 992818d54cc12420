/- strings.Join of known texts, as a contract. -/
import Derived.Test.YtkbdcpkbmfegdaaGreatDoorSGvO
import Derived.Shelf.Strings.OnBuilder
set_option linter.unusedSimpArgs false
set_option linter.unusedVariables false
open Rx Go
namespace Go.Proofs
open Go.Shelf
def Tryz.mV : Go.Shelf.Ren := ⟨fun | 156 => 10 | 105 => 8 | 212 => 14 | 99 => 15 | 165 => 16 | 166 => 17 | 170 => 18 | 169 => 19 | 263 => 22 | 264 => 23 | 206 => 24 | 240 => 25 | 241 => 26 | 276 => 31 | 277 => 32 | n => n, fun | 31 => 36 | 9 => 9 | 3 => 3 | 4 => 4 | 20 => 20 | 0 => 0 | 46 => 54 | 109 => 55 | 5 => 5 | 72 => 61 | 76 => 65 | 51 => 71 | 146 => 72 | 53 => 74 | 148 => 75 | 70 => 58 | 37 => 59 | 75 => 64 | 127 => 77 | 164 => 84 | 80 => 68 | n => n, fun | n => n⟩
theorem Tryz.IV : Go.Proofs.Lays.n156 Tryz.prog Tryz.mV := {
 mixed := by kernel_rfl
 f156 := Tryz.func10.trans (congrArg some (by kernel_rfl))
 f165 := Tryz.func16.trans (congrArg some (by kernel_rfl))
 f166 := Tryz.func17.trans (congrArg some (by kernel_rfl))
 f169 := Tryz.func19.trans (congrArg some (by kernel_rfl))
 f240 := Tryz.func25.trans (congrArg some (by kernel_rfl))
 f241 := Tryz.func26.trans (congrArg some (by kernel_rfl))
 f276 := Tryz.func31.trans (congrArg some (by kernel_rfl))
 f277 := Tryz.func32.trans (congrArg some (by kernel_rfl))
 t0 := Tryz.underlying0
 a0 := Tryz.isAgg0
 z0 := Tryz.sizeOf0
 v0 := Tryz.zeroValue0
 t3 := Tryz.underlying3
 a3 := Tryz.isAgg3
 z3 := Tryz.sizeOf3
 v3 := Tryz.zeroValue3
 t4 := Tryz.underlying4
 a4 := Tryz.isAgg4
 z4 := Tryz.sizeOf4
 v4 := Tryz.zeroValue4
 t9 := Tryz.underlying9
 a9 := Tryz.isAgg9
 z9 := Tryz.sizeOf9
 v9 := Tryz.zeroValue9
 t20 := Tryz.underlying20
 a20 := Tryz.isAgg20
 z20 := Tryz.sizeOf20
 v20 := Tryz.zeroValue20
 t31 := Tryz.underlying36
 a31 := Tryz.isAgg36
 z31 := Tryz.sizeOf36
 v31 := Tryz.zeroValue36
 t37 := Tryz.underlying59
 a37 := Tryz.isAgg59
 z37 := Tryz.sizeOf59
 v37 := Tryz.zeroValue59
 t70 := Tryz.underlying58
 a70 := Tryz.isAgg58
 z70 := Tryz.sizeOf58
 v70 := Tryz.zeroValue58
 t72 := Tryz.underlying61
 a72 := Tryz.isAgg61
 z72 := Tryz.sizeOf61
 v72 := Tryz.zeroValue61
 t75 := Tryz.underlying64
 a75 := Tryz.isAgg64
 z75 := Tryz.sizeOf64
 v75 := Tryz.zeroValue64
 t76 := Tryz.underlying65
 a76 := Tryz.isAgg65
 z76 := Tryz.sizeOf65
 v76 := Tryz.zeroValue65
 t127 := Tryz.underlying77
 a127 := Tryz.isAgg77
 z127 := Tryz.sizeOf77
 v127 := Tryz.zeroValue77
 t164 := Tryz.underlying84
 a164 := Tryz.isAgg84
 z164 := Tryz.sizeOf84
 v164 := Tryz.zeroValue84 }
theorem Tryz.XE : Builder.Extra Tryz.prog Tryz.mV where
 sizeBuilder := by kernel_rfl
 liesBuilder := by kernel_rfl
 t5 := Tryz.underlying5
 a5 := Tryz.isAgg5
 z5 := Tryz.sizeOf5
 v5 := Tryz.zeroValue5
 infoByte := by kernel_rfl
 cellsByte := by kernel_rfl
 sizeByte := by kernel_rfl
 neB5 := by decide
end Go.Proofs
namespace Gv
open Rd
noncomputable def OV (tr : Tr SV) (k : Nat) (n : Nat) : Option (List ByteArray) := @Nat.rec (fun _ => Nat -> Option (List ByteArray)) (fun _ => some []) (fun _ ih k => @Option.rec ByteArray (fun _ => Option (List ByteArray)) none (fun s => @Option.rec (List ByteArray) (fun _ => Option (List ByteArray)) none (fun l => some (s :: l)) (ih (Nat.succ k))) (jy (tr.get .junk k))) n k
noncomputable def jnB (xs : List ByteArray) (sep : ByteArray) : ByteArray := ⟨(Lib.join (xs.map (·.data.toList)) sep.data.toList).toArray⟩
noncomputable def jnT (ts : List ByteArray) (j : ByteArray) : T Res := @List.rec ByteArray (fun _ => T Res) .fail (fun t _ ih => BT (byE j.data.toList t.data.toList) (BT (Nat.ble t.data.toList.length 100000) (.ret ⟨.sy t, .none⟩) .fail) ih) ts
noncomputable def jnR (ts : List ByteArray) (al : List SV) (g : Nat -> Option Ob) : T Res := match al with
 | [.sl i 1 0 n _, x] => match jy x, g i with
   | some s, some (.vec _ 1 m tr _) => match OV tr 0 n with
     | some xs => BT (aK (Nat.ble n m) (aK (Nat.ble 1 n) (Nat.ble n 100000))) (jnT ts (jnB xs s)) .fail
     | none => .fail
   | _, _ => .fail
 | [.dt (.cell (.slice none 0 0)), x] => match jy x with
   | some _ => .ret ⟨.dt (.cell (.string ⟨#[]⟩)), .none⟩
   | none => .fail
 | _ => .fail
theorem EJ {tr : Tr SV} : ∀ {n k : Nat} {xs : List ByteArray}, OV tr k n = some xs -> xs.length = n /\ ∀ j x, xs[j]? = some x -> jy (tr.get .junk (k + j)) = some x
 | 0, k, xs, h => by
   injection h with h
   subst h
   exact ⟨rfl, fun _ _ h => (by simp at h)⟩
 | n + 1, k, xs, h => by
   have h : (@Option.rec ByteArray (fun _ => Option (List ByteArray)) none (fun s => @Option.rec (List ByteArray) (fun _ => Option (List ByteArray)) none (fun l => some (s :: l)) (OV tr (k + 1) n)) (jy (tr.get .junk k))) = some xs := h
   cases h1 : jy (tr.get .junk k) with
   | none => rw [h1] at h; cases h
   | some s =>
     rw [h1] at h
     cases h2 : OV tr (k + 1) n with
     | none => rw [h2] at h; cases h
     | some l =>
       rw [h2] at h
       injection h with h
       subst h
       obtain ⟨e, ih⟩ := EJ h2
       refine ⟨by simp [e], fun j x hj => ?_⟩
       cases j with
       | zero => simp at hj; subst hj; exact h1
       | succ j =>
         have := ih j x (by simpa using hj)
         rwa [show k + 1 + j = k + (j + 1) by omega] at this
theorem Ol {j : ByteArray} {post : Res -> Prop} : ∀ {ts : List ByteArray}, (jnT ts j).holds post -> ∃ t, j = t /\ t.data.toList.length <= 100000 /\ post ⟨.sy t, .none⟩
 | [], h => h.elim
 | t :: ts, h => by
   rcases fZ (show (BT (byE j.data.toList t.data.toList) (BT (Nat.ble t.data.toList.length 100000) (.ret ⟨.sy t, .none⟩) .fail) (jnT ts j)).holds post from h) with ⟨h1, h⟩ | h
   · obtain ⟨h2, h3⟩ := qU h
     refine ⟨t, ?_, Nat.le_of_ble_eq_true h2, h3⟩
     have := Ka h1
     cases j with | mk a => cases t with | mk b => cases a with | mk a => cases b with | mk b => simp at this; rw [this]
   · exact Ol h
theorem c10 : callable prog 10 = true := by kernel_rfl
theorem f10 : Go.Proofs.Tryz.mV.f 156 = 10 := by kernel_rfl
theorem aeD {w w' : World} (hb : Go.RowKit.Below w.heap.size w w') : Ag (fun _ => False) w w' := ⟨hb.os, hb.tape, hb.output, hb.size, fun i hi _ => hb.block i hi⟩
theorem RJ (ts : List ByteArray) : bJ prog 10 (mkS fun al g _ => jnR ts al g) := by
 intro C w g al vs new post hw hg _ hr hh
 replace hh : (jnR ts al g).holds post := hh
 unfold jnR at hh
 split at hh
 · rename_i i n cap x
   split at hh
   · rename_i s tt m tr ex hs hgi
     split at hh
     · rename_i xs hxs
       obtain ⟨h1, hh⟩ := qU hh
       obtain ⟨h1, h2⟩ := aB h1
       obtain ⟨h2, h6⟩ := aB h2
       have h1 := Nat.le_of_ble_eq_true h1
       have h6 := Nat.le_of_ble_eq_true h6
       have h2 := Nat.le_of_ble_eq_true h2
       obtain ⟨t, hj, hlen, hp⟩ := Ol hh
       obtain ⟨hn, hget⟩ := EJ hxs
       obtain ⟨v1, _, rfl, r1, v2, _, rfl, r2, rfl⟩ := hr
       obtain ⟨b, mm, cc, xo, hν, rfl, hx, hnc, hom, hc1, hc2⟩ := r1
       have hv := gG hs r2
       subst hv
       obtain ⟨_, hlm, hex, hρ, cur, hrow, hcsz, hcells⟩ := AY (hg i _ hgi) hν
       have hx0 : xo = 0 := by
        rcases hx with h | h
        · omega
        · omega
       subst hx0
       have hlt : b < w.heap.size := by
        rw [Array.getElem?_eq_some_iff] at hrow
        exact hrow.1
       have hJ := Go.Proofs.Any.strings_Join Go.Proofs.Tryz.IV Go.Proofs.Tryz.XE b 0 cc xs s w (fun j x hjx => by
        have hjn : j < n := by
         have := (List.getElem?_eq_some_iff.1 hjx).1
         omega
        obtain ⟨u, e1, e2, e3⟩ := hcells j (by omega)
        have h3 := hget j x hjx
        rw [Nat.zero_add] at h3
        have h4 := gG h3 e3
        rw [Nat.zero_add]
        simp [World.cell?, hrow, e1, h4]) hlt (by omega) (by omega) (by
        have : (jnB xs s).data.toList = t.data.toList := by rw [hj]
        have h5 : (Lib.join (xs.map (·.data.toList)) s.data.toList) = t.data.toList := by rw [← this]; rfl
        rw [h5]
        omega)
       rw [f10, hn] at hJ
       refine ⟨c10, hJ.mono ?_⟩
       rintro e w' ⟨rfl, hb⟩
       have hag := aeD hb
       refine ⟨_, C, ⟨.sy t, .none⟩, rfl, hp, ?_⟩
       refine ⟨?_, dV hag, kP hw hag, fun _ hi => .inl hi, fun _ _ hi => (by simp [Eff.none] at hi)⟩
       rw [← hj]
       rfl
     · exact hh.elim
   · exact hh.elim
 · rename_i x
   split at hh
   · rename_i s hs
     obtain ⟨v1, _, rfl, r1, v2, _, rfl, r2, rfl⟩ := hr
     have hv := gG hs r2
     subst hv
     have r1 := aj.1 r1
     subst r1
     have hJ := Go.Proofs.Any.strings_Join_none Go.Proofs.Tryz.IV Go.Proofs.Tryz.XE none 0 s w
     rw [f10] at hJ
     refine ⟨c10, hJ.mono ?_⟩
     rintro e w' ⟨rfl, hww⟩
     have hag : Ag (fun _ => False) w w' := by rw [hww]; exact ⟨rfl, rfl, rfl, Nat.le_refl _, fun _ _ _ => rfl⟩
     refine ⟨_, C, _, rfl, hh, ?_⟩
     exact ⟨aj.2 rfl, dV hag, kP hw hag, fun _ hi => .inl hi, fun _ _ hi => (by simp [Eff.none] at hi)⟩
   · exact hh.elim
 · exact hh.elim
theorem afb {xl : XL} (ts : List ByteArray) (hl : MOk xl) : MOk ((10, mkS fun al g _ => jnR ts al g) :: xl) := iB (RJ ts) hl
end Gv
set_option linter.unusedSimpArgs false
set_option linter.unusedVariables false
set_option maxRecDepth 100000
open Rx Go Gv Rd
namespace Gv.SL
noncomputable section
def zf : ByteArray := ⟨#[102]⟩
def zc : ByteArray := ⟨#[99, 111, 110, 115]⟩
def op : ByteArray := ⟨#[40]⟩
def afm (f : List SV) (n : Nat) : List SV := @Nat.rec (fun _ => List SV) [] (fun _ ih => f ++ ih) n
def O (n : Nat) : SV := C (Int.ofNat n)
def glb : Ob := vc 122 4 1 [S zf, C 5, C 0, S s0] false
def glJ : Ob := vc 122 4 1 [S zf, J, J, J] false
def w0 : Ob := vc 114 3 2 [C 8, C 0, S s0, C 1, I 0, S s0] false
def c0 : Ob := vc 206 8 3 [C 1, I 0, I 0, S s0, S s0, I 0, I 0, S s0, C 3, C 0, I 0, S s0, S s0, I 0, I 0, S s0, C 14, I 0, I 0, S s0, S s0, I 0, I 0, S s0] false
def f1 (i : Nat) : Ob := vc 119 4 1 [I 1, I 1, I 0, V i 8 0 3] false
def f1J : Ob := vc 119 4 1 [J, J, I 0, J] false
def f2 (i k : Nat) : Ob := vc 119 4 2 [I 1, I 1, I 0, V i 8 0 3, I 0, I 0, I 0, V 3 8 0 (Nat.add 6 (Nat.add k k))] false
def f2J : Ob := vc 119 4 2 [J, J, I 0, J, J, J, I 0, J] false
def cl (k : Nat) : Nat := Nat.add 6 (Nat.add k k)
def wn (k : Nat) : Nat := Nat.add 2 (Nat.mul 3 k)
def nz {α : Type} (a : α) (f : Nat -> α) (k : Nat) : α := @Nat.rec (fun _ => α) a (fun t _ => f (Nat.succ t)) k
def upL (f : Nat -> List SV) (n : Nat) : List SV := @Nat.rec (fun _ => List SV) [] (fun t ih => ih ++ f t) n
def cod (k : Nat) : Ob := vc 206 8 (cl k) ([C 1, I 0, I 0, S s0, S s0, I 0, I 0, S s0, C 1, I 0, I 0, S s0, S s0, I 0, I 0, S s0, C 9, I 0, I 0, S zf, S s0, I 0, I 0, S s0, C 1, I 0, I 0, S s0, S s0, I 0, I 0, S s0] ++ (upL (fun t => [C 2, I 0, I 0, S s0, S s0, C 1, O t, S s0]) k ++ ([C 2, I 0, I 0, S s0, S s0, C 3, I 0, S s0] ++ (afm [C 18, C 2, I 0, S zc, S s0, I 0, I 0, S s0] k ++ [C 13, C 1, I 0, S s0, S s0, I 0, I 0, S s0])))) false
def wds (k : Nat) : Ob := vc 114 3 (wn k) ([C 8, C 0, S s0, C 1, I 0, S s0] ++ upL (fun t => [C 6, I 0, S s0, C 1, O (Nat.pred (Nat.sub k t)), S s0] ++ nz [C 3, I 0, S s0] (fun t => [C 5, O (Nat.pred (Nat.mul 3 t)), S s0]) t) k) false
def ml (k : Nat) : List (Int × Bool) := @Nat.rec (fun _ => List (Int × Bool)) [] (fun t ih => ih ++ [(Int.ofNat (Nat.add 2 (Nat.mul 3 t)), true)]) k
def mpk (k : Nat) : Ob := .mp (.int .i64) .bool ((0, true) :: ml k)
def dg (i : Nat) : List UInt8 := @Bool.rec (fun _ => List UInt8) [UInt8.ofNat (48 + i / 10), UInt8.ofNat (48 + i % 10)] [UInt8.ofNat (48 + i)] (Nat.blt i 10)
def its (k : Nat) : List UInt8 := @Nat.rec (fun _ => List UInt8) [] (fun t ih => ih ++ nz (dg t) (fun t => 32 :: dg t) t) k
def txt (k : Nat) : ByteArray := ⟨(40 :: (its (@Bool.rec (fun _ => Nat) 50 k (Nat.ble k 50)) ++ (@Bool.rec (fun _ => List UInt8) [32, 46, 46] [] (Nat.ble k 50) ++ [41]))).toArray⟩
def jt (k : Nat) : ByteArray := ⟨(its (@Bool.rec (fun _ => Nat) 50 k (Nat.ble k 50)) ++ @Bool.rec (fun _ => List UInt8) [32, 46, 46] [] (Nat.ble k 50)).toArray⟩
def chain (k : Nat) : List (Option Ob) := nz [] (fun k => [some (vc 25 4 k (upL (fun t => [C 1, O t, S s0, aT]) k) false)]) k
def top (k : Nat) : SV := nz (.agg [C 3, I 0, S s0]) (fun k => .agg [C 5, O (Nat.pred (Nat.mul 3 k)), S s0]) k
def mm (k : Nat) : Nat := nz 5 (fun _ => 6) k
def e0 : TE := ⟨1, [V 0 3 0 2], [some w0], .tup [.nm 1, .kb true], [some (.mp (.int .i64) .bool [((0 : Int), true)])]⟩
def e1 : TE := ⟨1, [.agg [V 0 3 0 2, C 4000]], [some w0], I 0, []⟩
def e2 : TE := ⟨1, [.agg [V 0 1 0 1, aT]], [some (vc 9 1 1 [S zf] false)], I 0, []⟩
def e3 : TE := ⟨3, [.agg [V 0 4 0 1, V 1 4 0 1, aT, J, J], .agg [I 1, I 1, I 0, V 2 8 0 3]], [some f1J, some glJ, some c0], .kb true, []⟩
def e4 : TE := ⟨4, [.agg [V 0 4 0 1, V 1 4 0 1, aT, V 2 3 0 2, C 4000]], [some (f1 3), some glb, some w0, some c0], I 0, []⟩
def e5 : TE := ⟨4, [.agg [V 0 4 0 1, V 1 4 0 1, aT, V 2 3 0 2, C 4000]], [some (f1 3), some glb, some w0, some c0], .tup [.agg [V 4 1 0 1, aT], I 0], [some (vc 9 1 1 [S zf] false)]⟩
def e6 : TE := ⟨0, [aT], [], .tup [.nm 0, .kb true], [some (.mp (.int .i64) .bool [])]⟩
def e7 : TE := ⟨0, [.agg [aT, C 50]], [], I 0, []⟩
def e12 : TE := ⟨3, [.agg [.sl 0 4 0 1 (some 1), V 1 4 0 1, aT, J, J], .agg [I 1, I 1, I 0, V 2 8 0 3]], [some f2J, some glJ, some c0], .kb true, []⟩
def e8 (k : Nat) : TE := ⟨3, [.agg [V 0 4 0 1, V 1 4 0 1, aT, J, J], .agg [I 0, I 0, I 0, V 2 8 0 (cl k)]], [some f1J, some glJ, some (cod k)], .kb true, []⟩
def e9 (k : Nat) : TE := ⟨5, [.agg [V 0 4 0 1, V 1 4 0 1, aT, V 2 3 0 2, C 4000], .agg [I 0, I 0, I 0, V 3 8 0 (cl k)], I 50], [some (f1 4), some glb, some w0, some (cod k), some c0], .tup [.agg [.sl 5 4 0 1 (some 1), V 6 4 0 1, aT, V 7 3 0 (wn k), C 4000], top k, I 0], [some (f2 8 k), some glb, some (wds k), some c0]⟩
def e10 (k : Nat) : TE := ⟨1, [V 0 3 0 (wn k)], [some (wds k)], .tup [.nm 1, .kb true], [some (mpk k)]⟩
def e11 (k : Nat) : TE := ⟨1, [.agg [V 0 3 0 (wn k), C 4000]], [some (wds k)], I 0, []⟩
def wk (k : Nat) : SV := .agg [.sl 0 4 0 1 (some 1), V 1 4 0 1, aT, V 2 3 0 (wn k), C 4000]
def aiv (k : Nat) : List (Option Ob) := [some (f2 4 k), some glb, some (wds k), some (cod k), some c0]
def e13 (k : Nat) : TE := ⟨5, [wk k], aiv k, I 0, []⟩
def e14 (k : Nat) : TE := ⟨5, [wk k, top k], aiv k, .tup [.agg [V 5 4 0 1, V 6 4 0 1, aT, V 7 3 0 (wn k), C 4000], .sy (txt k), I 0], [some (f1 8), some glb, some (wds k), some c0]⟩
def e15 (k : Nat) : TE := ⟨mm k, [.agg [V 0 4 0 1, V 1 4 0 1, aT, V 2 3 0 2, C 4000], .agg [C 2, S s0, S zf, V 3 4 0 1, C 50]], [some (f1 4), some glb, some w0, some (vc 25 4 1 [C 4, I 0, S s0, nz aT (fun k => V 5 4 0 k) k] true), some c0] ++ chain k, .tup [.agg [V (mm k) 4 0 1, V (Nat.add (mm k) 1) 4 0 1, aT, V (Nat.add (mm k) 2) 3 0 (wn k), C 4000], .sy (txt k), I 0], [some (f1 (Nat.add (mm k) 3)), some glb, some (wds k), some c0]⟩
def wdj (k j : Nat) : Ob := vc 114 3 (wn j) ([C 8, C 0, S s0, C 1, I 0, S s0] ++ upL (fun t => [C 6, I 0, S s0, C 1, O (Nat.pred (Nat.sub k t)), S s0] ++ nz [C 3, I 0, S s0] (fun t => [C 5, O (Nat.pred (Nat.mul 3 t)), S s0]) t) j) false
def stk (k j : Nat) : Ob := vc 114 3 (Nat.add 2 k) ([C 5, C 0, S s0] ++ (upL (fun t => [C 1, O t, S s0]) (Nat.sub k j) ++ (nz [C 3, I 0, S s0] (fun t => [C 5, O (Nat.pred (Nat.mul 3 t)), S s0]) j ++ afm [J, J, J] j))) false
def Ll (k : Nat) : SV := .tup [top k, I 0]
def p (k : Nat) : ME := ⟨8, [.ptr 0 0, I 0], [some (.cells 180 [V 1 4 0 2, V 2 4 0 1, aT, V 3 3 0 2, C 4000, V 4 1 0 1, C 50, I 0]), some (vc 119 4 2 [I 1, I 1, I 0, V 6 8 0 3, I 0, I 0, I 0, V 5 8 0 (cl k)] false), some glb, some w0, some (vc 269 1 1 [.ptr 7 0] false), some (cod k), some c0, some (.cells 271 [C 1, I 0, C 3, I 0, S s0, aT, aT])], Ll k,
 [some (.cells 180 [V 1 4 0 2, V 2 4 0 1, aT, V 8 3 0 (wn k), C 4000, J, J, I 0]), some (vc 119 4 2 [I 1, I 1, I 0, V 6 8 0 3, I 0, I 0, I 0, V 5 8 0 (cl k)] false), some glb, none, none, some (cod k), some c0, none, some (wds k)]⟩
def s (k j : Nat) : ME := ⟨10, [.ptr 0 0, I 0, J, J, .ptr 1 0], [some (.cells 180 [V 2 4 0 2, V 3 4 0 1, aT, V 4 3 0 (wn j), C 4000, V 5 1 0 1, I 47, I 0]), some (.cells 114 [I 0, I 0, S s0]), some (vc 119 4 2 [I 1, I 1, I 0, V 7 8 0 3, I 0, I 0, I 0, V 6 8 0 (cl k)] false), some glb, some (wdj k j), some (vc 269 1 1 [.ptr 8 0] false), some (cod k), some c0, some (.cells 271 [C 1, I (Int.ofNat (Nat.add 5 (Nat.add k j))), C 3, I 0, S s0, aT, V 9 3 0 (Nat.sub (Nat.add 2 k) j)]), some (stk k j)], Ll k,
 [some (.cells 180 [V 2 4 0 2, V 3 4 0 1, aT, V 10 3 0 (wn k), C 4000, J, J, I 0]), none, some (vc 119 4 2 [I 1, I 1, I 0, V 7 8 0 3, I 0, I 0, I 0, V 6 8 0 (cl k)] false), some glb, none, none, some (cod k), some c0, none, none, some (wds k)]⟩
end
theorem aiM {e : ME} {xl : XL} (h : eP prog 79 e) (hl : MOk xl) : MOk ((79, He [e]) :: xl) := iB (Hf fun y hy => by
 simp only [List.mem_cons, List.not_mem_nil, or_false] at hy
 subst hy
 exact h) hl
abbrev Yk (r : R) : Prop := r.holds fun y => y.1 = .kb true
noncomputable abbrev okM (e : ME) : Bool := aK e.ok (Nat.ble e.m 16000000)
noncomputable abbrev okE (e : TE) : Bool := aK e.ok (Nat.ble e.m 16000000)
abbrev Wla (k a n : Nat) : Prop := okM (s k a) = true /\ qt = Yk (aat [] [] [] (s k a) n)
abbrev Wlb (k a b n : Nat) : Prop := okM (s k a) = true /\ qt = Yk (aat [] [] [s k b] (s k a) n)
abbrev Wlp (k : Nat) : Prop := okM (p k) = true /\ qt = Yk (afj [] [] [s k 0] (s k 0).al (p k) (Nat.add 5 k))
theorem tla (k a n : Nat) (w : Wla k a n) : LT (s k a) := seg_lt (tl := []) (es := []) [] aO afd (fun _ h => by cases h) (aB w.1).1 (by kernel_rfl) (aB w.1).2 n (q := qt) rfl w.2
theorem tlb (k a b n : Nat) (w : Wlb k a b n) (h : LT (s k b)) : LT (s k a) := seg_lt (tl := []) (es := [s k b]) [] aO (SS h) (OD rfl) (aB w.1).1 (by kernel_rfl) (aB w.1).2 n (q := qt) rfl w.2
theorem tp (k : Nat) (w : Wlp k) (h : LT (s k 0)) : eP prog 79 (p k) := aap (tl := []) (es := [s k 0]) [] aO (SS h) (OD rfl) (aB w.1).1 (by kernel_rfl) (aB w.1).2 (Nat.add 5 k) (q := qt) rfl w.2
theorem t0 : ah prog 84 e0 := fE (ml := []) (tl := []) [] bT aO (by kernel_rfl) (by kernel_rfl) (q := rp (en (Ob.mp (.int .i64) .bool [((0 : Int), true)])) 1 (qt)) (xw rfl _ rfl) (by kernel_rfl)
theorem t1 : ah prog 83 e1 := fE (ml := [(84, bL [e0])]) (tl := []) [] (kR (ta t0 cK) bT) aO (by kernel_rfl) (by kernel_rfl) (q := qt) rfl (by kernel_rfl)
theorem t2 : ah prog 58 e2 := fE (ml := []) (tl := []) [] bT aO (by kernel_rfl) (by kernel_rfl) (q := qt) rfl (by kernel_rfl)
theorem t3 : ah prog 77 e3 := fE (ml := []) (tl := []) [] bT aO (by kernel_rfl) (by kernel_rfl) (q := qt) rfl (by kernel_rfl)
theorem t4 : ah prog 56 e4 := fE (ml := [(83, bL [e1]), (58, bL [e2]), (77, bL [e3]), (84, bL [e0])]) (tl := []) [] (kR (ta t1 cK) (kR (ta t2 cK) (kR (ta t3 cK) (kR (ta t0 cK) bT)))) aO (by kernel_rfl) (by kernel_rfl) (q := qt) rfl (by kernel_rfl)
theorem t5 : ah prog 38 e5 := fE (ml := [(56, bL [e4])]) (tl := []) [] (kR (ta t4 cK) bT) aO (by kernel_rfl) (by kernel_rfl) (q := qt) rfl (by kernel_rfl)
theorem t6 : ah prog 84 e6 := fE (ml := []) (tl := []) [] bT aO (by kernel_rfl) (by kernel_rfl) (q := rp (en (Ob.mp (.int .i64) .bool [])) 1 (qt)) (xw rfl _ rfl) (by kernel_rfl)
theorem t7 : ah prog 83 e7 := fE (ml := [(84, bL [e6])]) (tl := []) [] (kR (ta t6 cK) bT) aO (by kernel_rfl) (by kernel_rfl) (q := qt) rfl (by kernel_rfl)
theorem t12 : ah prog 77 e12 := fE (ml := []) (tl := []) [] bT aO (by kernel_rfl) (by kernel_rfl) (q := qt) rfl (by kernel_rfl)
noncomputable abbrev NM (k : Nat) : Bool := aK (nmF [true] (e10 k).obs) (aK (nmF [true] (e11 k).obs) (aK (nmF [false, false, true, true] (e13 k).obs) (nmF [false, false, true] (e8 k).obs)))
abbrev wq (k n : Nat) (q : Prop) : Prop := rp (en (some (wds k))) n q
noncomputable def cnt (k : Nat) : Nat := Nat.add 4 (Nat.mul 4 (@Bool.rec (fun _ => Nat) 50 k (Nat.ble k 50)))
noncomputable def bld (t : ByteArray) (l : XL) : XL := (dM, mkS fun al g new => wsK al g new) :: (fJ, mkS fun al g new => wbK al g new) :: (lQ, mkS fun al _ _ => Dn al) :: (l8, mkS fun al g _ => stK t al g) :: l
abbrev W10 (k : Nat) : Prop := okE (e10 k) = true /\ (rp (en (mpk k)) 1 (qt)) = Yk (uo [] ([]) [] 84 (e10 k))
theorem t10 (k : Nat) (z : NM k = true) (w : W10 k) : ah prog 84 (e10 k) := fE (ml := []) (tl := []) [] bT aO (aB w.1).1 (aB w.1).2 (q := rp (en (mpk k)) 1 (qt)) (xw rfl _ rfl) w.2
abbrev W11 (k : Nat) : Prop := okE (e11 k) = true /\ (wq k 1 qt) = Yk (uo [] ([(84, fV [([true], e10 k)])]) [] 83 (e11 k))
theorem t11 (k : Nat) (z : NM k = true) (w : W11 k) (h10 : ah prog 84 (e10 k)) : ah prog 83 (e11 k) := fE (ml := [(84, fV [([true], e10 k)])]) (tl := []) [] (KX (tf h10 (aB z).1 rV) bT) aO (aB w.1).1 (aB w.1).2 (q := wq k 1 qt) (xw rfl _ rfl) w.2
abbrev W8 (k : Nat) : Prop := okE (e8 k) = true /\ (qt) = Yk (uo [] ([(83, bL [e7]), (84, bL [e6])]) [] 77 (e8 k))
theorem t8 (k : Nat) (z : NM k = true) (w : W8 k) : ah prog 77 (e8 k) := fE (ml := [(83, bL [e7]), (84, bL [e6])]) (tl := []) [] (kR (ta t7 cK) (kR (ta t6 cK) bT)) aO (aB w.1).1 (aB w.1).2 (q := qt) rfl w.2
abbrev W9 (k : Nat) : Prop := okE (e9 k) = true /\ ((some (cod k) = some (cod k)) /\ qt) = Yk (uo [] ([(56, bL [e4]), (77, fV [([false, false, true], e8 k)])]) [] 44 (e9 k))
theorem t9 (k : Nat) (z : NM k = true) (w : W9 k) (h8 : ah prog 77 (e8 k)) : ah prog 44 (e9 k) := fE (ml := [(56, bL [e4]), (77, fV [([false, false, true], e8 k)])]) (tl := []) [] (kR (ta t4 cK) (KX (tf h8 (aB (aB (aB z).2).2).2 rV) bT)) aO (aB w.1).1 (aB w.1).2 (q := (some (cod k) = some (cod k)) /\ qt) ⟨rfl, rfl⟩ w.2
abbrev W13 (k : Nat) : Prop := okE (e13 k) = true /\ (wq k 3 qt) = Yk (uo [] ([(83, fV [([true], e11 k)]), (58, bL [e2]), (77, bL [e12]), (84, fV [([true], e10 k)])]) [] 56 (e13 k))
theorem t13 (k : Nat) (z : NM k = true) (w : W13 k) (h10 : ah prog 84 (e10 k)) (h11 : ah prog 83 (e11 k)) : ah prog 56 (e13 k) := fE (ml := [(83, fV [([true], e11 k)]), (58, bL [e2]), (77, bL [e12]), (84, fV [([true], e10 k)])]) (tl := []) [] (KX (tf h11 (aB (aB z).2).1 rV) (kR (ta t2 cK) (kR (ta t12 cK) (KX (tf h10 (aB z).1 rV) bT)))) aO (aB w.1).1 (aB w.1).2 (q := wq k 3 qt) (xw rfl _ rfl) w.2
abbrev W14 (k : Nat) : Prop := okE (e14 k) = true /\ ((some (wds k) = some (wds k)) /\ (some (cod k) = some (cod k)) /\ wq k (cnt k) ((txt k = txt k) /\ qt)) = Yk (uo [] (bld (txt k) ([(56, fV [([false, false, true, true], e13 k)]), (83, fV [([true], e11 k)]), (84, fV [([true], e10 k)])])) [] 45 (e14 k))
theorem t14 (k : Nat) (z : NM k = true) (w : W14 k) (h10 : ah prog 84 (e10 k)) (h11 : ah prog 83 (e11 k)) (h13 : ah prog 56 (e13 k)) : ah prog 45 (e14 k) := fE (ml := bld (txt k) ([(56, fV [([false, false, true, true], e13 k)]), (83, fV [([true], e11 k)]), (84, fV [([true], e10 k)])])) (tl := []) [] (aiL (txt k) (KX (tf h13 (aB (aB (aB z).2).2).1 rV) (KX (tf h11 (aB (aB z).2).1 rV) (KX (tf h10 (aB z).1 rV) bT)))) aO (aB w.1).1 (aB w.1).2 (q := (some (wds k) = some (wds k)) /\ (some (cod k) = some (cod k)) /\ wq k (cnt k) ((txt k = txt k) /\ qt)) ⟨rfl, rfl, xw rfl _ ⟨rfl, rfl⟩⟩ w.2
abbrev W15 (k : Nat) : Prop := okE (e15 k) = true /\ ((txt k = txt k) /\ qt) = Yk (uo [] ([(38, bL [e5]), (44, bL [e9 k]), (45, bL [e14 k])]) [] 29 (e15 k))
theorem t15 (k : Nat) (z : NM k = true) (w : W15 k) (h9 : ah prog 44 (e9 k)) (h14 : ah prog 45 (e14 k)) : ah prog 29 (e15 k) := fE (ml := [(38, bL [e5]), (44, bL [e9 k]), (45, bL [e14 k])]) (tl := []) [] (kR (ta t5 cK) (kR (ta h9 cK) (kR (ta h14 cK) bT))) aO (aB w.1).1 (aB w.1).2 (q := (txt k = txt k) /\ qt) ⟨rfl, rfl⟩ w.2
abbrev aiA (k : Nat) : Prop := okE (e15 k) = true /\ ((txt k = txt k) /\ qt) = Yk (uo [] ((79, He [p k]) :: [(38, bL [e5]), (56, bL [e4]), (77, bL [e8 k]), (45, bL [e14 k])]) [] 29 (e15 k))
theorem iJ (k : Nat) (z : NM k = true) (w : aiA k) (hr : eP prog 79 (p k)) (h8 : ah prog 77 (e8 k)) (h14 : ah prog 45 (e14 k)) : ah prog 29 (e15 k) := fE (ml := (79, He [p k]) :: [(38, bL [e5]), (56, bL [e4]), (77, bL [e8 k]), (45, bL [e14 k])]) (tl := []) [] (aiM hr (kR (ta t5 cK) (kR (ta t4 cK) (kR (ta h8 cK) (kR (ta h14 cK) bT))))) aO (aB w.1).1 (aB w.1).2 (q := (txt k = txt k) /\ qt) ⟨rfl, rfl⟩ w.2
noncomputable def xl : XL := (lQ, mkS fun al _ _ => Dn al) :: (10, mkS fun al g _ => jnR [jt 1, jt 2, jt 3, jt 4, jt 5, jt 6, jt 7, jt 8, jt 9, jt 10, jt 11, jt 12, jt 13, jt 14, jt 15, jt 16, jt 17, jt 18, jt 19, jt 20, jt 21, jt 22, jt 23, jt 24, jt 25, jt 26, jt 27, jt 28, jt 29, jt 30, jt 31, jt 32, jt 33, jt 34, jt 35, jt 36, jt 37, jt 38, jt 39, jt 40, jt 41, jt 42, jt 43, jt 44, jt 45, jt 46, jt 47, jt 48, jt 49, jt 50, jt 51] al g) :: [(29, bL [e15 0, e15 1, e15 2, e15 3, e15 4, e15 5, e15 6, e15 7, e15 8, e15 9, e15 10, e15 11, e15 12, e15 13, e15 14, e15 15, e15 16, e15 17, e15 18, e15 19, e15 20, e15 21, e15 22, e15 23, e15 24, e15 25, e15 26, e15 27, e15 28, e15 29, e15 30, e15 31, e15 32, e15 33, e15 34, e15 35, e15 36, e15 37, e15 38, e15 39, e15 40, e15 41, e15 42, e15 43, e15 44, e15 45, e15 46, e15 47, e15 48, e15 49, e15 50, e15 51, e15 52, e15 53, e15 54, e15 55, e15 56, e15 57, e15 58, e15 59, e15 60, e15 61, e15 62, e15 63, e15 64, e15 65, e15 66, e15 67, e15 68, e15 69, e15 70, e15 71, e15 72, e15 73, e15 74, e15 75, e15 76, e15 77, e15 78, e15 79])]
end Gv.SL
