/- The library's functions, as contracts. -/
import Derived.Test.YtildnaomamnkgaaGreatDoorRxZ
import Derived.Shelf.Strconv.Itoa3
import Derived.Shelf.Strconv.ErrVarAll
import Derived.Shelf.Small.Strs
import Derived.Ground.NamesProg
import Derived.KernelRfl
set_option linter.unusedSimpArgs false
set_option linter.unusedVariables false
open Rx Go
namespace Go.Proofs
open Go.Shelf
def Tryz.G5 : Go.Shelf.Ren := ⟨fun | 171 => 12 | 243 => 15 | 246 => 17 | 283 => 21 | 284 => 22 | 285 => 23 | 286 => 24 | 129 => 37 | 317 => 36 | 318 => 38 | 319 => 39 | 320 => 40 | 337 => 81 | 338 => 82 | n => n, fun | 3 => 3 | 9 => 9 | 2 => 2 | 4 => 4 | 171 => 66 | 0 => 0 | 53 => 67 | 37 => 70 | 5 => 5 | 173 => 71 | 212 => 106 | 51 => 107 | 20 => 20 | 213 => 108 | 46 => 109 | 232 => 271 | 233 => 272 | n => n, fun | 17 => 0 | 18 => 1 | 19 => 2 | n => n⟩
theorem Tryz.RU : Go.Proofs.LaysM.n171 Tryz.prog Tryz.G5 := {
 mixed := by kernel_rfl
 f129 := Tryz.func37.trans (congrArg some (by kernel_rfl))
 f171 := Tryz.func12.trans (congrArg some (by kernel_rfl))
 f243 := Tryz.func15.trans (congrArg some (by kernel_rfl))
 f246 := Tryz.func17.trans (congrArg some (by kernel_rfl))
 f283 := Tryz.func21.trans (congrArg some (by kernel_rfl))
 f284 := Tryz.func22.trans (congrArg some (by kernel_rfl))
 f285 := Tryz.func23.trans (congrArg some (by kernel_rfl))
 f286 := Tryz.func24.trans (congrArg some (by kernel_rfl))
 f317 := Tryz.func36.trans (congrArg some (by kernel_rfl))
 f318 := Tryz.func38.trans (congrArg some (by kernel_rfl))
 f319 := Tryz.func39.trans (congrArg some (by kernel_rfl))
 f320 := Tryz.func40.trans (congrArg some (by kernel_rfl))
 f337 := Tryz.func81.trans (congrArg some (by kernel_rfl))
 f338 := Tryz.func82.trans (congrArg some (by kernel_rfl))
 t0 := Tryz.underlying0
 a0 := Tryz.isAgg0
 z0 := Tryz.sizeOf0
 v0 := Tryz.zeroValue0
 t2 := Tryz.underlying2
 a2 := Tryz.isAgg2
 z2 := Tryz.sizeOf2
 v2 := Tryz.zeroValue2
 t3 := Tryz.underlying3
 a3 := Tryz.isAgg3
 z3 := Tryz.sizeOf3
 v3 := Tryz.zeroValue3
 t4 := Tryz.underlying4
 a4 := Tryz.isAgg4
 z4 := Tryz.sizeOf4
 v4 := Tryz.zeroValue4
 t5 := Tryz.underlying5
 a5 := Tryz.isAgg5
 z5 := Tryz.sizeOf5
 v5 := Tryz.zeroValue5
 t9 := Tryz.underlying9
 a9 := Tryz.isAgg9
 z9 := Tryz.sizeOf9
 v9 := Tryz.zeroValue9
 t20 := Tryz.underlying20
 a20 := Tryz.isAgg20
 z20 := Tryz.sizeOf20
 v20 := Tryz.zeroValue20
 t37 := Tryz.underlying70
 a37 := Tryz.isAgg70
 z37 := Tryz.sizeOf70
 v37 := Tryz.zeroValue70
 t46 := Tryz.underlying109
 a46 := Tryz.isAgg109
 z46 := Tryz.sizeOf109
 v46 := Tryz.zeroValue109
 t51 := Tryz.underlying107
 a51 := Tryz.isAgg107
 z51 := Tryz.sizeOf107
 v51 := Tryz.zeroValue107
 t53 := Tryz.underlying67
 a53 := Tryz.isAgg67
 z53 := Tryz.sizeOf67
 v53 := Tryz.zeroValue67
 t171 := Tryz.underlying66
 a171 := Tryz.isAgg66
 z171 := Tryz.sizeOf66
 v171 := Tryz.zeroValue66
 t173 := Tryz.underlying71
 a173 := Tryz.isAgg71
 z173 := Tryz.sizeOf71
 v173 := Tryz.zeroValue71
 t212 := Tryz.underlying106
 a212 := Tryz.isAgg106
 z212 := Tryz.sizeOf106
 v212 := Tryz.zeroValue106
 t213 := Tryz.underlying108
 a213 := Tryz.isAgg108
 z213 := Tryz.sizeOf108
 t232 := Tryz.underlying271
 a232 := Tryz.isAgg271
 z232 := Tryz.sizeOf271
 v232 := Tryz.zeroValue271
 t233 := Tryz.underlying272
 a233 := Tryz.isAgg272
 z233 := Tryz.sizeOf272
 v233 := Tryz.zeroValue272
 g17 := by kernel_rfl
 g18 := by kernel_rfl
 g19 := by kernel_rfl
 i0 := by kernel_rfl
 i2 := by kernel_rfl
 i3 := by kernel_rfl
 i4 := by kernel_rfl
 i5 := by kernel_rfl
 i9 := by kernel_rfl
 i20 := by kernel_rfl
 i37 := by kernel_rfl
 i46 := by kernel_rfl
 i51 := by kernel_rfl
 i53 := by kernel_rfl
 i171 := by kernel_rfl
 i173 := by kernel_rfl
 i212 := by kernel_rfl
 i232 := by kernel_rfl
 i233 := by kernel_rfl
 m17 := by kernel_rfl
 m18 := by kernel_rfl
 m19 := by kernel_rfl }
def Tryz.EM : Go.Shelf.Ren := ⟨fun | 172 => 149 | 244 => 202 | 245 => 203 | 247 => 226 | 279 => 227 | 280 => 228 | 281 => 229 | 282 => 230 | 287 => 237 | 316 => 238 | 171 => 12 | 205 => 239 | 321 => 244 | 322 => 245 | 243 => 15 | 246 => 17 | 283 => 21 | 284 => 22 | 285 => 23 | 286 => 24 | 129 => 37 | 317 => 36 | 318 => 38 | 319 => 39 | 320 => 40 | 337 => 81 | 338 => 82 | n => n, fun | 9 => 9 | 3 => 3 | 75 => 261 | 76 => 262 | 4 => 4 | 5 => 5 | 167 => 332 | 37 => 70 | 0 => 0 | 85 => 333 | 2 => 2 | 168 => 335 | 53 => 67 | 175 => 342 | 46 => 109 | 210 => 346 | 127 => 266 | 145 => 354 | 143 => 352 | 21 => 21 | 171 => 66 | 173 => 71 | 212 => 106 | 51 => 107 | 20 => 20 | 213 => 108 | 232 => 271 | 233 => 272 | 80 => 172 | n => n, fun | 15 => 9 | 16 => 10 | 17 => 0 | 18 => 1 | 19 => 2 | n => n⟩
theorem Tryz.zO : Go.Proofs.LaysC.n172 Tryz.prog Tryz.EM := {
 mixed := by kernel_rfl
 f129 := Tryz.func37.trans (congrArg some (by kernel_rfl))
 f171 := Tryz.func12.trans (congrArg some (by kernel_rfl))
 f172 := Tryz.func149.trans (congrArg some (by kernel_rfl))
 f205 := Tryz.func239.trans (congrArg some (by kernel_rfl))
 f243 := Tryz.func15.trans (congrArg some (by kernel_rfl))
 f244 := Tryz.func202.trans (congrArg some (by kernel_rfl))
 f245 := Tryz.func203.trans (congrArg some (by kernel_rfl))
 f246 := Tryz.func17.trans (congrArg some (by kernel_rfl))
 f247 := Tryz.func226.trans (congrArg some (by kernel_rfl))
 f279 := Tryz.func227.trans (congrArg some (by kernel_rfl))
 f280 := Tryz.func228.trans (congrArg some (by kernel_rfl))
 f281 := Tryz.func229.trans (congrArg some (by kernel_rfl))
 f282 := Tryz.func230.trans (congrArg some (by kernel_rfl))
 f283 := Tryz.func21.trans (congrArg some (by kernel_rfl))
 f284 := Tryz.func22.trans (congrArg some (by kernel_rfl))
 f285 := Tryz.func23.trans (congrArg some (by kernel_rfl))
 f286 := Tryz.func24.trans (congrArg some (by kernel_rfl))
 f287 := Tryz.func237.trans (congrArg some (by kernel_rfl))
 f316 := Tryz.func238.trans (congrArg some (by kernel_rfl))
 f317 := Tryz.func36.trans (congrArg some (by kernel_rfl))
 f318 := Tryz.func38.trans (congrArg some (by kernel_rfl))
 f319 := Tryz.func39.trans (congrArg some (by kernel_rfl))
 f320 := Tryz.func40.trans (congrArg some (by kernel_rfl))
 f321 := Tryz.func244.trans (congrArg some (by kernel_rfl))
 f322 := Tryz.func245.trans (congrArg some (by kernel_rfl))
 f337 := Tryz.func81.trans (congrArg some (by kernel_rfl))
 f338 := Tryz.func82.trans (congrArg some (by kernel_rfl))
 t0 := Tryz.underlying0
 a0 := Tryz.isAgg0
 z0 := Tryz.sizeOf0
 v0 := Tryz.zeroValue0
 t2 := Tryz.underlying2
 a2 := Tryz.isAgg2
 z2 := Tryz.sizeOf2
 v2 := Tryz.zeroValue2
 t3 := Tryz.underlying3
 a3 := Tryz.isAgg3
 z3 := Tryz.sizeOf3
 v3 := Tryz.zeroValue3
 t4 := Tryz.underlying4
 a4 := Tryz.isAgg4
 z4 := Tryz.sizeOf4
 v4 := Tryz.zeroValue4
 t5 := Tryz.underlying5
 a5 := Tryz.isAgg5
 z5 := Tryz.sizeOf5
 v5 := Tryz.zeroValue5
 t9 := Tryz.underlying9
 a9 := Tryz.isAgg9
 z9 := Tryz.sizeOf9
 v9 := Tryz.zeroValue9
 t20 := Tryz.underlying20
 a20 := Tryz.isAgg20
 z20 := Tryz.sizeOf20
 v20 := Tryz.zeroValue20
 t21 := Tryz.underlying21
 a21 := Tryz.isAgg21
 z21 := Tryz.sizeOf21
 v21 := Tryz.zeroValue21
 t37 := Tryz.underlying70
 a37 := Tryz.isAgg70
 z37 := Tryz.sizeOf70
 v37 := Tryz.zeroValue70
 t46 := Tryz.underlying109
 a46 := Tryz.isAgg109
 z46 := Tryz.sizeOf109
 v46 := Tryz.zeroValue109
 t51 := Tryz.underlying107
 a51 := Tryz.isAgg107
 z51 := Tryz.sizeOf107
 v51 := Tryz.zeroValue107
 t53 := Tryz.underlying67
 a53 := Tryz.isAgg67
 z53 := Tryz.sizeOf67
 v53 := Tryz.zeroValue67
 t75 := Tryz.underlying261
 a75 := Tryz.isAgg261
 z75 := Tryz.sizeOf261
 v75 := Tryz.zeroValue261
 t76 := Tryz.underlying262
 a76 := Tryz.isAgg262
 z76 := Tryz.sizeOf262
 v76 := Tryz.zeroValue262
 t85 := Tryz.underlying333
 a85 := Tryz.isAgg333
 z85 := Tryz.sizeOf333
 v85 := Tryz.zeroValue333
 t127 := Tryz.underlying266
 a127 := Tryz.isAgg266
 z127 := Tryz.sizeOf266
 v127 := Tryz.zeroValue266
 t143 := Tryz.underlying352
 a143 := Tryz.isAgg352
 z143 := Tryz.sizeOf352
 v143 := Tryz.zeroValue352
 t145 := Tryz.underlying354
 a145 := Tryz.isAgg354
 z145 := Tryz.sizeOf354
 v145 := Tryz.zeroValue354
 t167 := Tryz.underlying332
 a167 := Tryz.isAgg332
 z167 := Tryz.sizeOf332
 v167 := Tryz.zeroValue332
 t168 := Tryz.underlying335
 a168 := Tryz.isAgg335
 z168 := Tryz.sizeOf335
 v168 := Tryz.zeroValue335
 t171 := Tryz.underlying66
 a171 := Tryz.isAgg66
 z171 := Tryz.sizeOf66
 v171 := Tryz.zeroValue66
 t173 := Tryz.underlying71
 a173 := Tryz.isAgg71
 z173 := Tryz.sizeOf71
 v173 := Tryz.zeroValue71
 t175 := Tryz.underlying342
 a175 := Tryz.isAgg342
 z175 := Tryz.sizeOf342
 v175 := Tryz.zeroValue342
 t210 := Tryz.underlying346
 a210 := Tryz.isAgg346
 z210 := Tryz.sizeOf346
 v210 := Tryz.zeroValue346
 t212 := Tryz.underlying106
 a212 := Tryz.isAgg106
 z212 := Tryz.sizeOf106
 v212 := Tryz.zeroValue106
 t213 := Tryz.underlying108
 a213 := Tryz.isAgg108
 z213 := Tryz.sizeOf108
 t232 := Tryz.underlying271
 a232 := Tryz.isAgg271
 z232 := Tryz.sizeOf271
 v232 := Tryz.zeroValue271
 t233 := Tryz.underlying272
 a233 := Tryz.isAgg272
 z233 := Tryz.sizeOf272
 v233 := Tryz.zeroValue272
 g15 := by kernel_rfl
 g16 := by kernel_rfl
 g17 := by kernel_rfl
 g18 := by kernel_rfl
 g19 := by kernel_rfl
 t80 := Tryz.underlying172
 a80 := Tryz.isAgg172
 z80 := Tryz.sizeOf172
 v80 := Tryz.zeroValue172
 i0 := by kernel_rfl
 i2 := by kernel_rfl
 i3 := by kernel_rfl
 i4 := by kernel_rfl
 i5 := by kernel_rfl
 i9 := by kernel_rfl
 i20 := by kernel_rfl
 i21 := by kernel_rfl
 i37 := by kernel_rfl
 i46 := by kernel_rfl
 i51 := by kernel_rfl
 i53 := by kernel_rfl
 i75 := by kernel_rfl
 i76 := by kernel_rfl
 i80 := by kernel_rfl
 i85 := by kernel_rfl
 i127 := by kernel_rfl
 i143 := by kernel_rfl
 i145 := by kernel_rfl
 i167 := by kernel_rfl
 i168 := by kernel_rfl
 i171 := by kernel_rfl
 i173 := by kernel_rfl
 i175 := by kernel_rfl
 i210 := by kernel_rfl
 i212 := by kernel_rfl
 i232 := by kernel_rfl
 i233 := by kernel_rfl
 m15 := by kernel_rfl
 m16 := by kernel_rfl
 m17 := by kernel_rfl
 m18 := by kernel_rfl
 m19 := by kernel_rfl
 c0 := by kernel_rfl
 c2 := by kernel_rfl
 c3 := by kernel_rfl
 c4 := by kernel_rfl
 c5 := by kernel_rfl
 c9 := by kernel_rfl
 c20 := by kernel_rfl
 c21 := by kernel_rfl
 c37 := by kernel_rfl
 c46 := by kernel_rfl
 c51 := by kernel_rfl
 c53 := by kernel_rfl
 c75 := by kernel_rfl
 c76 := by kernel_rfl
 c80 := by kernel_rfl
 c85 := by kernel_rfl
 c127 := by kernel_rfl
 c143 := by kernel_rfl
 c145 := by kernel_rfl
 c167 := by kernel_rfl
 c168 := by kernel_rfl
 c171 := by kernel_rfl
 c173 := by kernel_rfl
 c175 := by kernel_rfl
 c210 := by kernel_rfl
 c212 := by kernel_rfl
 c213 := by kernel_rfl
 c232 := by kernel_rfl
 c233 := by kernel_rfl }
def Tryz.tV : Go.Shelf.Ren := ⟨fun | 137 => 148 | 217 => 201 | 266 => 225 | n => n, fun | 9 => 9 | 5 => 5 | 3 => 3 | n => n, fun | n => n⟩
theorem Tryz.Cg : Go.Proofs.Lays.n137 Tryz.prog Tryz.tV := {
 mixed := by kernel_rfl
 f137 := Tryz.func148.trans (congrArg some (by kernel_rfl))
 f217 := Tryz.func201.trans (congrArg some (by kernel_rfl))
 f266 := Tryz.func225.trans (congrArg some (by kernel_rfl))
 t3 := Tryz.underlying3
 a3 := Tryz.isAgg3
 z3 := Tryz.sizeOf3
 v3 := Tryz.zeroValue3
 t5 := Tryz.underlying5
 a5 := Tryz.isAgg5
 z5 := Tryz.sizeOf5
 v5 := Tryz.zeroValue5
 t9 := Tryz.underlying9
 a9 := Tryz.isAgg9
 z9 := Tryz.sizeOf9
 v9 := Tryz.zeroValue9 }
end Go.Proofs
namespace Rd
noncomputable def kws : List (Rx.Ty.str.den × Rx.Ty.bool.den) := [((⟨#[98, 101, 103, 105, 110]⟩ : ByteArray), true), ((⟨#[100, 101, 102, 105, 110, 101]⟩ : ByteArray), true), ((⟨#[105, 102]⟩ : ByteArray), true), ((⟨#[108, 97, 109, 98, 100, 97]⟩ : ByteArray), true), ((⟨#[108, 101, 116]⟩ : ByteArray), true), ((⟨#[113, 117, 111, 116, 101]⟩ : ByteArray), true), ((⟨#[114, 101, 99, 111, 114, 100]⟩ : ByteArray), true), ((⟨#[115, 101, 116, 33]⟩ : ByteArray), true), ((⟨#[117, 112, 103, 114, 97, 100, 101]⟩ : ByteArray), true), ((⟨#[119, 97, 115]⟩ : ByteArray), true)]
noncomputable def ars : List (Rx.Ty.str.den × (Rx.Ty.int .i64).den) := [((⟨#[42]⟩ : ByteArray), (2 : Int)), ((⟨#[43]⟩ : ByteArray), (2 : Int)), ((⟨#[45]⟩ : ByteArray), (2 : Int)), ((⟨#[60]⟩ : ByteArray), (2 : Int)), ((⟨#[61]⟩ : ByteArray), (2 : Int)), ((⟨#[99, 97, 114]⟩ : ByteArray), (1 : Int)), ((⟨#[99, 100, 114]⟩ : ByteArray), (1 : Int)), ((⟨#[99, 111, 110, 115]⟩ : ByteArray), (2 : Int)), ((⟨#[101, 113, 63]⟩ : ByteArray), (2 : Int)), ((⟨#[101, 114, 114, 111, 114]⟩ : ByteArray), (1 : Int)), ((⟨#[110, 111, 116]⟩ : ByteArray), (1 : Int)), ((⟨#[110, 117, 108, 108, 63]⟩ : ByteArray), (1 : Int)), ((⟨#[112, 97, 105, 114, 63]⟩ : ByteArray), (1 : Int)), ((⟨#[113, 117, 111, 116, 105, 101, 110, 116]⟩ : ByteArray), (2 : Int)), ((⟨#[114, 101, 109, 97, 105, 110, 100, 101, 114]⟩ : ByteArray), (2 : Int))]
noncomputable def Sn : List Int := [0, 0, 0, 0, 0, 1, 0, 1, 1, 0, 0, 1, 1, 1, 1, 1, 2, 0, 0, 1, 1, 0, 0, 0, 0, 0, 0, 0, 1, 0, 0, 0, 1, 0, 1, 0, 0, 0, 0, 0, 1, 1, 1, 1, 2, 1]
noncomputable def aes (j : Nat) : Dt := .cell (.int .i64 (Sn.getD j 0))
noncomputable def WR : Nat -> Option (Nat × (Nat -> Dt))
 | 3 => some (1, fun _ => .mp .str .bool kws)
 | 4 => some (1, fun _ => .mp .str (.int .i64) ars)
 | 6 => some (1, fun _ => .mp .str (.int .i64) ars)
 | 7 => some (1, fun _ => .mp .str (.int .i64) ars)
 | 5 => some (46, aes)
 | _ => none
def R5 (w : World) : Prop := ∀ g m f, WR g = some (m, f) -> ∀ j, j < m -> ∃ u, w.cell? ⟨g, j, none⟩ = some u /\ Rep w (f j) u
noncomputable instance : Glob := ⟨fun w => Lib.TabIs prog w "internal/strconv.uint64pow10" .u64 Lib.pow10Tab /\
 (∃ tp p, w.var? prog "strconv.ErrSyntax" = some #[.iface tp p]) /\ (∃ tp p, w.var? prog "strconv.ErrRange" = some #[.iface tp p]) /\ R5 w, WR, fun _ h => h.2.2.2⟩
theorem oQ {P : Program} {f : FuncId} {args : List SV} {vs0 : List Value} {s : SV} (hargs : ∀ (C : Ctx) (w : World) (vs : List Value), relL C w args vs -> vs = vs0)
  (h : ∀ w, Glob.ok w -> Calls P f vs0.toArray w fun e w' => ∃ v, e = .returned v /\ Ag (fun _ => False) w w' /\ ∀ C : Ctx, rel C w' s v) : Ctr P f args [] (.ret (s, [])) := by
 intro C w vs post hw _ hn hr hp
 have := hargs C w vs hr
 subst this
 refine (h w hw.gl.here).mono ?_
 rintro e w' ⟨v, rfl, ha, hv⟩
 exact ⟨v, C, (s, []), hp, rfl, gK ha, pV hw ha, hn, hv C, fun i ob hi => by simp at hi⟩
theorem uY {P : Program} {f : FuncId} {args : List SV} {obs : List Ob} {p : Prop} {out : T Out} (h : p -> Ctr P f args obs out) : Ctr P f args obs (.need p out) :=
 fun C w vs post hw ho hn hr hp => h hp.1 C w vs post hw ho hn hr hp.2
theorem Uo {P : Program} {f : FuncId} {args : List SV} {obs : List Ob} {b : Bool} {t e : T Out} (h1 : b = true -> Ctr P f args obs t) (h2 : b = false -> Ctr P f args obs e) : Ctr P f args obs (.ite b t e) := by
 intro C w vs post hw ho hn hr hp
 cases hb : b with
 | true => exact h1 hb C w vs post hw ho hn hr (hp.1 hb)
 | false => exact h2 hb C w vs post hw ho hn hr (hp.2 hb)
theorem args1 {x : Value} : ∀ (C : Ctx) (w : World) (vs : List Value), relL C w [.dt (.cell x)] vs -> vs = [x] := by
 rintro C w _ ⟨v, _, rfl, h, rfl⟩
 rw [ah.1 h]
theorem args2 {x y : Value} : ∀ (C : Ctx) (w : World) (vs : List Value), relL C w [.dt (.cell x), .dt (.cell y)] vs -> vs = [x, y] := by
 rintro C w _ ⟨v, _, rfl, h, v', _, rfl, h', rfl⟩
 rw [ah.1 h, ah.1 h']
def ixB (s : ByteArray) (c : Int) : Int := Lib.indexByte s.data.toList c.toNat.toUInt8
theorem Cj (s : ByteArray) (c : Int) : Ctr prog w9 [vS s, vI .u8 c] [] (.ret (vI .i64 (ixB s c), [])) := by
 refine oQ args2 fun w _ => (Go.Proofs.Any.strings_IndexByte Go.Proofs.Tryz.Cg s c w).mono ?_
 rintro e w' ⟨rfl, rfl⟩
 exact ⟨_, rfl, Ag.refl _ _, fun C => ah.2 rfl⟩
def bG (n : Int) : ByteArray := ⟨(Lib.itoa n).toArray⟩
def inI (n : Int) : Prop := -9223372036854775808 <= n /\ n <= 9223372036854775807
theorem Jm (n : Int) : Ctr prog vQ [vI .i64 n] [] (.need (inI n) (.ret (vS (bG n), []))) := by
 refine uY fun hn => oQ args1 fun w hw => (Go.Proofs.Any.strconv_Itoa Go.Proofs.Tryz.RU n hn.1 hn.2 w hw.1).mono ?_
 rintro e w' ⟨rfl, k, os, rfl⟩
 refine ⟨_, rfl, ⟨rfl, rfl, rfl, by simp [Sort.grow, World.drewN], fun i hi _ => ?_⟩, fun C => ah.2 rfl⟩
 simp [Sort.grow, World.drewN, Array.getElem?_append, hi]
def lW (s : ByteArray) : Bool := match Lib.atoiAll s.data.toList with
 | .ok _ => true
 | _ => false
def dO (s : ByteArray) : Int := match Lib.atoiAll s.data.toList with
 | .ok v => v
 | _ => 0
def Po (s : ByteArray) : Int := match Lib.atoiAll s.data.toList with
 | .range => Lib.atoiSat s.data.toList
 | _ => 0
def Uz (s : ByteArray) : T Out := .need (s.size <= 281474976710656) (.ite (lW s) (.ret (.tup [vI .i64 (dO s), .dt (.cell .nilIface)], [])) (.ret (.tup [vI .i64 (Po s), .dt .ifc], [])))
theorem uZ {w w' : World} (h : RowKit.Below w.heap.size w w') : Ag (fun _ => False) w w' := ⟨h.os, h.tape, h.output, h.size, fun k hk _ => h.block k hk⟩
theorem Qk {w : World} {t : TypeId} {x : ByteArray} : Ag (fun _ => False) w (Lib.bytesWorld w t x) := uZ (Lib.bytesWorld_below _ _ _)
theorem O8 (s : ByteArray) : Ctr prog Ph [vS s] [] (Uz s) := by
 refine uY fun hn => Uo (fun hb => ?_) fun hb => ?_
 · cases h : Lib.atoiAll s.data.toList with
   | ok v =>
     refine oQ args1 fun w hw => (Go.Proofs.Any.strconv_Atoi_ok Go.Proofs.Tryz.zO s (by omega) v h w).mono ?_
     rintro e w' ⟨rfl, hw'⟩
     refine ⟨_, rfl, ?_, fun C => ⟨_, rfl, _, _, rfl, ah.2 (by simp [dO, h]), _, _, rfl, ah.2 rfl, rfl⟩⟩
     rcases hw' with rfl | ⟨t, rfl⟩
     · exact Ag.refl _ _
     · exact Qk
   | _ => simp [lW, h] at hb
 · cases h : Lib.atoiAll s.data.toList with
   | ok v => simp [lW, h] at hb
   | range =>
     refine oQ args1 fun w hw => ?_
     obtain ⟨tp, p, hv⟩ := hw.2.2.1
     refine (Go.Proofs.Any.strconv_Atoi_range_var Go.Proofs.Tryz.zO s hn h tp p w hv).mono ?_
     rintro e w' ⟨N, rfl, _, _, hb⟩
     exact ⟨_, rfl, uZ hb, fun C => ⟨_, rfl, _, _, rfl, ah.2 (by simp [Po, h]), _, _, rfl, fun w'' _ => ⟨_, _, rfl⟩, rfl⟩⟩
   | _ =>
     refine oQ args1 fun w hw => ?_
     obtain ⟨tp, p, hv⟩ := hw.2.1
     refine (Go.Proofs.Any.strconv_Atoi_syntax_var Go.Proofs.Tryz.zO s hn h tp p w hv).mono ?_
     rintro e w' ⟨N, rfl, _, _, hb⟩
     exact ⟨_, rfl, uZ hb, fun C => ⟨_, rfl, _, _, rfl, ah.2 (by simp [Po, h]), _, _, rfl, fun w'' _ => ⟨_, _, rfl⟩, rfl⟩⟩
end Rd
