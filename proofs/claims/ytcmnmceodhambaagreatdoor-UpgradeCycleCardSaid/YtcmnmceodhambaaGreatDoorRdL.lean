/- The library's functions, as contracts. -/
import Derived.Test.YtcmnmceodhambaaGreatDoorRxZ
import Derived.Shelf.Strconv.Itoa3
import Derived.Shelf.Strconv.ErrVarAll
import Derived.Shelf.Small.Strs
import Derived.Ground.NamesProg
import Derived.KernelRfl
set_option linter.unusedSimpArgs false
set_option linter.unusedVariables false
open Rx Go
namespace Go.Proofs
open Go.Shelf
def Tryz.Ea : Go.Shelf.Ren := ⟨fun | 171 => 15 | 243 => 25 | 246 => 38 | 283 => 76 | 284 => 77 | 285 => 78 | 286 => 79 | 129 => 139 | 317 => 138 | 318 => 140 | 319 => 141 | 320 => 142 | 337 => 187 | 338 => 188 | n => n, fun | 3 => 3 | 9 => 9 | 2 => 2 | 4 => 4 | 171 => 159 | 0 => 0 | 53 => 155 | 37 => 85 | 5 => 5 | 173 => 162 | 212 => 240 | 51 => 152 | 20 => 20 | 213 => 241 | 46 => 80 | 232 => 327 | 233 => 328 | n => n, fun | 17 => 0 | 18 => 6 | 19 => 7 | n => n⟩
theorem Tryz.O8 : Go.Proofs.LaysM.n171 Tryz.prog Tryz.Ea := {
 mixed := by kernel_rfl
 f129 := Tryz.func139.trans (congrArg some (by kernel_rfl))
 f171 := Tryz.func15.trans (congrArg some (by kernel_rfl))
 f243 := Tryz.func25.trans (congrArg some (by kernel_rfl))
 f246 := Tryz.func38.trans (congrArg some (by kernel_rfl))
 f283 := Tryz.func76.trans (congrArg some (by kernel_rfl))
 f284 := Tryz.func77.trans (congrArg some (by kernel_rfl))
 f285 := Tryz.func78.trans (congrArg some (by kernel_rfl))
 f286 := Tryz.func79.trans (congrArg some (by kernel_rfl))
 f317 := Tryz.func138.trans (congrArg some (by kernel_rfl))
 f318 := Tryz.func140.trans (congrArg some (by kernel_rfl))
 f319 := Tryz.func141.trans (congrArg some (by kernel_rfl))
 f320 := Tryz.func142.trans (congrArg some (by kernel_rfl))
 f337 := Tryz.func187.trans (congrArg some (by kernel_rfl))
 f338 := Tryz.func188.trans (congrArg some (by kernel_rfl))
 t0 := Tryz.underlying0
 a0 := Tryz.isAgg0
 z0 := Tryz.sizeOf0
 v0 := Tryz.zeroValue0
 t2 := Tryz.underlying2
 a2 := Tryz.isAgg2
 z2 := Tryz.sizeOf2
 v2 := Tryz.zeroValue2
 t3 := Tryz.underlying3
 a3 := Tryz.isAgg3
 z3 := Tryz.sizeOf3
 v3 := Tryz.zeroValue3
 t4 := Tryz.underlying4
 a4 := Tryz.isAgg4
 z4 := Tryz.sizeOf4
 v4 := Tryz.zeroValue4
 t5 := Tryz.underlying5
 a5 := Tryz.isAgg5
 z5 := Tryz.sizeOf5
 v5 := Tryz.zeroValue5
 t9 := Tryz.underlying9
 a9 := Tryz.isAgg9
 z9 := Tryz.sizeOf9
 v9 := Tryz.zeroValue9
 t20 := Tryz.underlying20
 a20 := Tryz.isAgg20
 z20 := Tryz.sizeOf20
 v20 := Tryz.zeroValue20
 t37 := Tryz.underlying85
 a37 := Tryz.isAgg85
 z37 := Tryz.sizeOf85
 v37 := Tryz.zeroValue85
 t46 := Tryz.underlying80
 a46 := Tryz.isAgg80
 z46 := Tryz.sizeOf80
 v46 := Tryz.zeroValue80
 t51 := Tryz.underlying152
 a51 := Tryz.isAgg152
 z51 := Tryz.sizeOf152
 v51 := Tryz.zeroValue152
 t53 := Tryz.underlying155
 a53 := Tryz.isAgg155
 z53 := Tryz.sizeOf155
 v53 := Tryz.zeroValue155
 t171 := Tryz.underlying159
 a171 := Tryz.isAgg159
 z171 := Tryz.sizeOf159
 v171 := Tryz.zeroValue159
 t173 := Tryz.underlying162
 a173 := Tryz.isAgg162
 z173 := Tryz.sizeOf162
 v173 := Tryz.zeroValue162
 t212 := Tryz.underlying240
 a212 := Tryz.isAgg240
 z212 := Tryz.sizeOf240
 v212 := Tryz.zeroValue240
 t213 := Tryz.underlying241
 a213 := Tryz.isAgg241
 z213 := Tryz.sizeOf241
 t232 := Tryz.underlying327
 a232 := Tryz.isAgg327
 z232 := Tryz.sizeOf327
 v232 := Tryz.zeroValue327
 t233 := Tryz.underlying328
 a233 := Tryz.isAgg328
 z233 := Tryz.sizeOf328
 v233 := Tryz.zeroValue328
 g17 := by kernel_rfl
 g18 := by kernel_rfl
 g19 := by kernel_rfl
 i0 := by kernel_rfl
 i2 := by kernel_rfl
 i3 := by kernel_rfl
 i4 := by kernel_rfl
 i5 := by kernel_rfl
 i9 := by kernel_rfl
 i20 := by kernel_rfl
 i37 := by kernel_rfl
 i46 := by kernel_rfl
 i51 := by kernel_rfl
 i53 := by kernel_rfl
 i171 := by kernel_rfl
 i173 := by kernel_rfl
 i212 := by kernel_rfl
 i232 := by kernel_rfl
 i233 := by kernel_rfl
 m17 := by kernel_rfl
 m18 := by kernel_rfl
 m19 := by kernel_rfl }
def Tryz.ER : Go.Shelf.Ren := ⟨fun | 172 => 151 | 244 => 201 | 245 => 202 | 247 => 235 | 279 => 236 | 280 => 237 | 281 => 238 | 282 => 239 | 287 => 253 | 316 => 254 | 171 => 15 | 205 => 255 | 321 => 259 | 322 => 260 | 243 => 25 | 246 => 38 | 283 => 76 | 284 => 77 | 285 => 78 | 286 => 79 | 129 => 139 | 317 => 138 | 318 => 140 | 319 => 141 | 320 => 142 | 337 => 187 | 338 => 188 | n => n, fun | 9 => 9 | 3 => 3 | 75 => 90 | 76 => 91 | 4 => 4 | 5 => 5 | 167 => 335 | 37 => 85 | 0 => 0 | 85 => 336 | 2 => 2 | 168 => 338 | 53 => 155 | 175 => 349 | 46 => 80 | 210 => 353 | 127 => 158 | 145 => 360 | 143 => 358 | 21 => 21 | 171 => 159 | 173 => 162 | 212 => 240 | 51 => 152 | 20 => 20 | 213 => 241 | 232 => 327 | 233 => 328 | 80 => 94 | n => n, fun | 15 => 9 | 16 => 10 | 17 => 0 | 18 => 6 | 19 => 7 | n => n⟩
theorem Tryz.Bh : Go.Proofs.LaysC.n172 Tryz.prog Tryz.ER := {
 mixed := by kernel_rfl
 f129 := Tryz.func139.trans (congrArg some (by kernel_rfl))
 f171 := Tryz.func15.trans (congrArg some (by kernel_rfl))
 f172 := Tryz.func151.trans (congrArg some (by kernel_rfl))
 f205 := Tryz.func255.trans (congrArg some (by kernel_rfl))
 f243 := Tryz.func25.trans (congrArg some (by kernel_rfl))
 f244 := Tryz.func201.trans (congrArg some (by kernel_rfl))
 f245 := Tryz.func202.trans (congrArg some (by kernel_rfl))
 f246 := Tryz.func38.trans (congrArg some (by kernel_rfl))
 f247 := Tryz.func235.trans (congrArg some (by kernel_rfl))
 f279 := Tryz.func236.trans (congrArg some (by kernel_rfl))
 f280 := Tryz.func237.trans (congrArg some (by kernel_rfl))
 f281 := Tryz.func238.trans (congrArg some (by kernel_rfl))
 f282 := Tryz.func239.trans (congrArg some (by kernel_rfl))
 f283 := Tryz.func76.trans (congrArg some (by kernel_rfl))
 f284 := Tryz.func77.trans (congrArg some (by kernel_rfl))
 f285 := Tryz.func78.trans (congrArg some (by kernel_rfl))
 f286 := Tryz.func79.trans (congrArg some (by kernel_rfl))
 f287 := Tryz.func253.trans (congrArg some (by kernel_rfl))
 f316 := Tryz.func254.trans (congrArg some (by kernel_rfl))
 f317 := Tryz.func138.trans (congrArg some (by kernel_rfl))
 f318 := Tryz.func140.trans (congrArg some (by kernel_rfl))
 f319 := Tryz.func141.trans (congrArg some (by kernel_rfl))
 f320 := Tryz.func142.trans (congrArg some (by kernel_rfl))
 f321 := Tryz.func259.trans (congrArg some (by kernel_rfl))
 f322 := Tryz.func260.trans (congrArg some (by kernel_rfl))
 f337 := Tryz.func187.trans (congrArg some (by kernel_rfl))
 f338 := Tryz.func188.trans (congrArg some (by kernel_rfl))
 t0 := Tryz.underlying0
 a0 := Tryz.isAgg0
 z0 := Tryz.sizeOf0
 v0 := Tryz.zeroValue0
 t2 := Tryz.underlying2
 a2 := Tryz.isAgg2
 z2 := Tryz.sizeOf2
 v2 := Tryz.zeroValue2
 t3 := Tryz.underlying3
 a3 := Tryz.isAgg3
 z3 := Tryz.sizeOf3
 v3 := Tryz.zeroValue3
 t4 := Tryz.underlying4
 a4 := Tryz.isAgg4
 z4 := Tryz.sizeOf4
 v4 := Tryz.zeroValue4
 t5 := Tryz.underlying5
 a5 := Tryz.isAgg5
 z5 := Tryz.sizeOf5
 v5 := Tryz.zeroValue5
 t9 := Tryz.underlying9
 a9 := Tryz.isAgg9
 z9 := Tryz.sizeOf9
 v9 := Tryz.zeroValue9
 t20 := Tryz.underlying20
 a20 := Tryz.isAgg20
 z20 := Tryz.sizeOf20
 v20 := Tryz.zeroValue20
 t21 := Tryz.underlying21
 a21 := Tryz.isAgg21
 z21 := Tryz.sizeOf21
 v21 := Tryz.zeroValue21
 t37 := Tryz.underlying85
 a37 := Tryz.isAgg85
 z37 := Tryz.sizeOf85
 v37 := Tryz.zeroValue85
 t46 := Tryz.underlying80
 a46 := Tryz.isAgg80
 z46 := Tryz.sizeOf80
 v46 := Tryz.zeroValue80
 t51 := Tryz.underlying152
 a51 := Tryz.isAgg152
 z51 := Tryz.sizeOf152
 v51 := Tryz.zeroValue152
 t53 := Tryz.underlying155
 a53 := Tryz.isAgg155
 z53 := Tryz.sizeOf155
 v53 := Tryz.zeroValue155
 t75 := Tryz.underlying90
 a75 := Tryz.isAgg90
 z75 := Tryz.sizeOf90
 v75 := Tryz.zeroValue90
 t76 := Tryz.underlying91
 a76 := Tryz.isAgg91
 z76 := Tryz.sizeOf91
 v76 := Tryz.zeroValue91
 t85 := Tryz.underlying336
 a85 := Tryz.isAgg336
 z85 := Tryz.sizeOf336
 v85 := Tryz.zeroValue336
 t127 := Tryz.underlying158
 a127 := Tryz.isAgg158
 z127 := Tryz.sizeOf158
 v127 := Tryz.zeroValue158
 t143 := Tryz.underlying358
 a143 := Tryz.isAgg358
 z143 := Tryz.sizeOf358
 v143 := Tryz.zeroValue358
 t145 := Tryz.underlying360
 a145 := Tryz.isAgg360
 z145 := Tryz.sizeOf360
 v145 := Tryz.zeroValue360
 t167 := Tryz.underlying335
 a167 := Tryz.isAgg335
 z167 := Tryz.sizeOf335
 v167 := Tryz.zeroValue335
 t168 := Tryz.underlying338
 a168 := Tryz.isAgg338
 z168 := Tryz.sizeOf338
 v168 := Tryz.zeroValue338
 t171 := Tryz.underlying159
 a171 := Tryz.isAgg159
 z171 := Tryz.sizeOf159
 v171 := Tryz.zeroValue159
 t173 := Tryz.underlying162
 a173 := Tryz.isAgg162
 z173 := Tryz.sizeOf162
 v173 := Tryz.zeroValue162
 t175 := Tryz.underlying349
 a175 := Tryz.isAgg349
 z175 := Tryz.sizeOf349
 v175 := Tryz.zeroValue349
 t210 := Tryz.underlying353
 a210 := Tryz.isAgg353
 z210 := Tryz.sizeOf353
 v210 := Tryz.zeroValue353
 t212 := Tryz.underlying240
 a212 := Tryz.isAgg240
 z212 := Tryz.sizeOf240
 v212 := Tryz.zeroValue240
 t213 := Tryz.underlying241
 a213 := Tryz.isAgg241
 z213 := Tryz.sizeOf241
 t232 := Tryz.underlying327
 a232 := Tryz.isAgg327
 z232 := Tryz.sizeOf327
 v232 := Tryz.zeroValue327
 t233 := Tryz.underlying328
 a233 := Tryz.isAgg328
 z233 := Tryz.sizeOf328
 v233 := Tryz.zeroValue328
 g15 := by kernel_rfl
 g16 := by kernel_rfl
 g17 := by kernel_rfl
 g18 := by kernel_rfl
 g19 := by kernel_rfl
 t80 := Tryz.underlying94
 a80 := Tryz.isAgg94
 z80 := Tryz.sizeOf94
 v80 := Tryz.zeroValue94
 i0 := by kernel_rfl
 i2 := by kernel_rfl
 i3 := by kernel_rfl
 i4 := by kernel_rfl
 i5 := by kernel_rfl
 i9 := by kernel_rfl
 i20 := by kernel_rfl
 i21 := by kernel_rfl
 i37 := by kernel_rfl
 i46 := by kernel_rfl
 i51 := by kernel_rfl
 i53 := by kernel_rfl
 i75 := by kernel_rfl
 i76 := by kernel_rfl
 i80 := by kernel_rfl
 i85 := by kernel_rfl
 i127 := by kernel_rfl
 i143 := by kernel_rfl
 i145 := by kernel_rfl
 i167 := by kernel_rfl
 i168 := by kernel_rfl
 i171 := by kernel_rfl
 i173 := by kernel_rfl
 i175 := by kernel_rfl
 i210 := by kernel_rfl
 i212 := by kernel_rfl
 i232 := by kernel_rfl
 i233 := by kernel_rfl
 m15 := by kernel_rfl
 m16 := by kernel_rfl
 m17 := by kernel_rfl
 m18 := by kernel_rfl
 m19 := by kernel_rfl
 c0 := by kernel_rfl
 c2 := by kernel_rfl
 c3 := by kernel_rfl
 c4 := by kernel_rfl
 c5 := by kernel_rfl
 c9 := by kernel_rfl
 c20 := by kernel_rfl
 c21 := by kernel_rfl
 c37 := by kernel_rfl
 c46 := by kernel_rfl
 c51 := by kernel_rfl
 c53 := by kernel_rfl
 c75 := by kernel_rfl
 c76 := by kernel_rfl
 c80 := by kernel_rfl
 c85 := by kernel_rfl
 c127 := by kernel_rfl
 c143 := by kernel_rfl
 c145 := by kernel_rfl
 c167 := by kernel_rfl
 c168 := by kernel_rfl
 c171 := by kernel_rfl
 c173 := by kernel_rfl
 c175 := by kernel_rfl
 c210 := by kernel_rfl
 c212 := by kernel_rfl
 c213 := by kernel_rfl
 c232 := by kernel_rfl
 c233 := by kernel_rfl }
def Tryz.uL : Go.Shelf.Ren := ⟨fun | 137 => 149 | 217 => 200 | 266 => 234 | n => n, fun | 9 => 9 | 5 => 5 | 3 => 3 | n => n, fun | n => n⟩
theorem Tryz.BP : Go.Proofs.Lays.n137 Tryz.prog Tryz.uL := {
 mixed := by kernel_rfl
 f137 := Tryz.func149.trans (congrArg some (by kernel_rfl))
 f217 := Tryz.func200.trans (congrArg some (by kernel_rfl))
 f266 := Tryz.func234.trans (congrArg some (by kernel_rfl))
 t3 := Tryz.underlying3
 a3 := Tryz.isAgg3
 z3 := Tryz.sizeOf3
 v3 := Tryz.zeroValue3
 t5 := Tryz.underlying5
 a5 := Tryz.isAgg5
 z5 := Tryz.sizeOf5
 v5 := Tryz.zeroValue5
 t9 := Tryz.underlying9
 a9 := Tryz.isAgg9
 z9 := Tryz.sizeOf9
 v9 := Tryz.zeroValue9 }
end Go.Proofs
namespace Rd
noncomputable def kws : List (Rx.Ty.str.den × Rx.Ty.bool.den) := [((⟨#[98, 101, 103, 105, 110]⟩ : ByteArray), true), ((⟨#[100, 101, 102, 105, 110, 101]⟩ : ByteArray), true), ((⟨#[105, 102]⟩ : ByteArray), true), ((⟨#[108, 97, 109, 98, 100, 97]⟩ : ByteArray), true), ((⟨#[108, 101, 116]⟩ : ByteArray), true), ((⟨#[113, 117, 111, 116, 101]⟩ : ByteArray), true), ((⟨#[114, 101, 99, 111, 114, 100]⟩ : ByteArray), true), ((⟨#[115, 101, 116, 33]⟩ : ByteArray), true), ((⟨#[117, 112, 103, 114, 97, 100, 101]⟩ : ByteArray), true), ((⟨#[119, 97, 115]⟩ : ByteArray), true)]
noncomputable def ars : List (Rx.Ty.str.den × (Rx.Ty.int .i64).den) := [((⟨#[42]⟩ : ByteArray), (2 : Int)), ((⟨#[43]⟩ : ByteArray), (2 : Int)), ((⟨#[45]⟩ : ByteArray), (2 : Int)), ((⟨#[60]⟩ : ByteArray), (2 : Int)), ((⟨#[61]⟩ : ByteArray), (2 : Int)), ((⟨#[99, 97, 114]⟩ : ByteArray), (1 : Int)), ((⟨#[99, 100, 114]⟩ : ByteArray), (1 : Int)), ((⟨#[99, 111, 110, 115]⟩ : ByteArray), (2 : Int)), ((⟨#[101, 113, 63]⟩ : ByteArray), (2 : Int)), ((⟨#[101, 114, 114, 111, 114]⟩ : ByteArray), (1 : Int)), ((⟨#[110, 111, 116]⟩ : ByteArray), (1 : Int)), ((⟨#[110, 117, 108, 108, 63]⟩ : ByteArray), (1 : Int)), ((⟨#[112, 97, 105, 114, 63]⟩ : ByteArray), (1 : Int)), ((⟨#[113, 117, 111, 116, 105, 101, 110, 116]⟩ : ByteArray), (2 : Int)), ((⟨#[114, 101, 109, 97, 105, 110, 100, 101, 114]⟩ : ByteArray), (2 : Int))]
noncomputable def RO : List Int := [0, 0, 0, 0, 0, 1, 0, 1, 1, 0, 0, 1, 1, 1, 1, 1, 2, 0, 0, 1, 1, 0, 0, 0, 0, 0, 0, 0, 1, 0, 0, 0, 1, 0, 1, 0, 0, 0, 0, 0, 1, 1, 1, 1, 2, 1]
noncomputable def Xv (j : Nat) : Dt := .cell (.int .i64 (RO.getD j 0))
noncomputable def U7 : Nat -> Option (Nat × (Nat -> Dt))
 | 1 => some (1, fun _ => .mp .str .bool kws)
 | 2 => some (1, fun _ => .mp .str (.int .i64) ars)
 | 4 => some (1, fun _ => .mp .str (.int .i64) ars)
 | 8 => some (1, fun _ => .mp .str (.int .i64) ars)
 | 3 => some (46, Xv)
 | _ => none
def RJ (w : World) : Prop := ∀ g m f, U7 g = some (m, f) -> ∀ j, j < m -> ∃ u, w.cell? ⟨g, j, none⟩ = some u /\ Rep w (f j) u
noncomputable instance : Glob := ⟨fun w => Lib.TabIs prog w "internal/strconv.uint64pow10" .u64 Lib.pow10Tab /\
 (∃ tp p, w.var? prog "strconv.ErrSyntax" = some #[.iface tp p]) /\ (∃ tp p, w.var? prog "strconv.ErrRange" = some #[.iface tp p]) /\ RJ w, U7, fun _ h => h.2.2.2⟩
theorem oW {P : Program} {f : FuncId} {args : List SV} {vs0 : List Value} {s : SV} (hargs : ∀ (C : Ctx) (w : World) (vs : List Value), relL C w args vs -> vs = vs0)
  (h : ∀ w, Glob.ok w -> Calls P f vs0.toArray w fun e w' => ∃ v, e = .returned v /\ Ag (fun _ => False) w w' /\ ∀ C : Ctx, rel C w' s v) : Ctr P f args [] (.ret (s, [])) := by
 intro C w vs post hw _ hn hr hp
 have := hargs C w vs hr
 subst this
 refine (h w hw.gl.here).mono ?_
 rintro e w' ⟨v, rfl, ha, hv⟩
 exact ⟨v, C, (s, []), hp, rfl, gI ha, oK hw ha, hn, hv C, fun i ob hi => by simp at hi⟩
theorem uM {P : Program} {f : FuncId} {args : List SV} {obs : List Ob} {p : Prop} {out : T Out} (h : p -> Ctr P f args obs out) : Ctr P f args obs (.need p out) :=
 fun C w vs post hw ho hn hr hp => h hp.1 C w vs post hw ho hn hr hp.2
theorem QB {P : Program} {f : FuncId} {args : List SV} {obs : List Ob} {b : Bool} {t e : T Out} (h1 : b = true -> Ctr P f args obs t) (h2 : b = false -> Ctr P f args obs e) : Ctr P f args obs (.ite b t e) := by
 intro C w vs post hw ho hn hr hp
 cases hb : b with
 | true => exact h1 hb C w vs post hw ho hn hr (hp.1 hb)
 | false => exact h2 hb C w vs post hw ho hn hr (hp.2 hb)
theorem args1 {x : Value} : ∀ (C : Ctx) (w : World) (vs : List Value), relL C w [.dt (.cell x)] vs -> vs = [x] := by
 rintro C w _ ⟨v, _, rfl, h, rfl⟩
 rw [ah.1 h]
theorem args2 {x y : Value} : ∀ (C : Ctx) (w : World) (vs : List Value), relL C w [.dt (.cell x), .dt (.cell y)] vs -> vs = [x, y] := by
 rintro C w _ ⟨v, _, rfl, h, v', _, rfl, h', rfl⟩
 rw [ah.1 h, ah.1 h']
def ixB (s : ByteArray) (c : Int) : Int := Lib.indexByte s.data.toList c.toNat.toUInt8
theorem BJ (s : ByteArray) (c : Int) : Ctr prog xq [vS s, vI .u8 c] [] (.ret (vI .i64 (ixB s c), [])) := by
 refine oW args2 fun w _ => (Go.Proofs.Any.strings_IndexByte Go.Proofs.Tryz.BP s c w).mono ?_
 rintro e w' ⟨rfl, rfl⟩
 exact ⟨_, rfl, Ag.refl _ _, fun C => ah.2 rfl⟩
def aP (n : Int) : ByteArray := ⟨(Lib.itoa n).toArray⟩
def inI (n : Int) : Prop := -9223372036854775808 <= n /\ n <= 9223372036854775807
theorem GQ (n : Int) : Ctr prog wC [vI .i64 n] [] (.need (inI n) (.ret (vS (aP n), []))) := by
 refine uM fun hn => oW args1 fun w hw => (Go.Proofs.Any.strconv_Itoa Go.Proofs.Tryz.O8 n hn.1 hn.2 w hw.1).mono ?_
 rintro e w' ⟨rfl, k, os, rfl⟩
 refine ⟨_, rfl, ⟨rfl, rfl, rfl, by simp [Sort.grow, World.drewN], fun i hi _ => ?_⟩, fun C => ah.2 rfl⟩
 simp [Sort.grow, World.drewN, Array.getElem?_append, hi]
def lX (s : ByteArray) : Bool := match Lib.atoiAll s.data.toList with
 | .ok _ => true
 | _ => false
def dJ (s : ByteArray) : Int := match Lib.atoiAll s.data.toList with
 | .ok v => v
 | _ => 0
def PX (s : ByteArray) : Int := match Lib.atoiAll s.data.toList with
 | .range => Lib.atoiSat s.data.toList
 | _ => 0
def Tj (s : ByteArray) : T Out := .need (s.size <= 281474976710656) (.ite (lX s) (.ret (.tup [vI .i64 (dJ s), .dt (.cell .nilIface)], [])) (.ret (.tup [vI .i64 (PX s), .dt .ifc], [])))
theorem tQ {w w' : World} (h : RowKit.Below w.heap.size w w') : Ag (fun _ => False) w w' := ⟨h.os, h.tape, h.output, h.size, fun k hk _ => h.block k hk⟩
theorem NR {w : World} {t : TypeId} {x : ByteArray} : Ag (fun _ => False) w (Lib.bytesWorld w t x) := tQ (Lib.bytesWorld_below _ _ _)
theorem Pm (s : ByteArray) : Ctr prog Oa [vS s] [] (Tj s) := by
 refine uM fun hn => QB (fun hb => ?_) fun hb => ?_
 · cases h : Lib.atoiAll s.data.toList with
   | ok v =>
     refine oW args1 fun w hw => (Go.Proofs.Any.strconv_Atoi_ok Go.Proofs.Tryz.Bh s (by omega) v h w).mono ?_
     rintro e w' ⟨rfl, hw'⟩
     refine ⟨_, rfl, ?_, fun C => ⟨_, rfl, _, _, rfl, ah.2 (by simp [dJ, h]), _, _, rfl, ah.2 rfl, rfl⟩⟩
     rcases hw' with rfl | ⟨t, rfl⟩
     · exact Ag.refl _ _
     · exact NR
   | _ => simp [lX, h] at hb
 · cases h : Lib.atoiAll s.data.toList with
   | ok v => simp [lX, h] at hb
   | range =>
     refine oW args1 fun w hw => ?_
     obtain ⟨tp, p, hv⟩ := hw.2.2.1
     refine (Go.Proofs.Any.strconv_Atoi_range_var Go.Proofs.Tryz.Bh s hn h tp p w hv).mono ?_
     rintro e w' ⟨N, rfl, _, _, hb⟩
     exact ⟨_, rfl, tQ hb, fun C => ⟨_, rfl, _, _, rfl, ah.2 (by simp [PX, h]), _, _, rfl, fun w'' _ => ⟨_, _, rfl⟩, rfl⟩⟩
   | _ =>
     refine oW args1 fun w hw => ?_
     obtain ⟨tp, p, hv⟩ := hw.2.1
     refine (Go.Proofs.Any.strconv_Atoi_syntax_var Go.Proofs.Tryz.Bh s hn h tp p w hv).mono ?_
     rintro e w' ⟨N, rfl, _, _, hb⟩
     exact ⟨_, rfl, tQ hb, fun C => ⟨_, rfl, _, _, rfl, ah.2 (by simp [PX, h]), _, _, rfl, fun w'' _ => ⟨_, _, rfl⟩, rfl⟩⟩
end Rd
