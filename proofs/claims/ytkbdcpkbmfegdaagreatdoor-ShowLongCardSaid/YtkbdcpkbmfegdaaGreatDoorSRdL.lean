/- The library's functions, as contracts. -/
import Derived.Test.YtkbdcpkbmfegdaaGreatDoorSRxZ
import Derived.Shelf.Strconv.Itoa3
import Derived.Shelf.Strconv.ErrVarAll
import Derived.Shelf.Small.Strs
import Derived.Ground.NamesProg
import Derived.KernelRfl
set_option linter.unusedSimpArgs false
set_option linter.unusedVariables false
open Rx Go
namespace Go.Proofs
open Go.Shelf
def Tryz.F4 : Go.Shelf.Ren := ⟨fun | 171 => 9 | 243 => 20 | 246 => 27 | 283 => 33 | 284 => 34 | 285 => 35 | 286 => 36 | 129 => 49 | 317 => 48 | 318 => 50 | 319 => 51 | 320 => 52 | 337 => 92 | 338 => 93 | n => n, fun | 3 => 3 | 9 => 9 | 2 => 2 | 4 => 4 | 171 => 87 | 0 => 0 | 53 => 74 | 37 => 59 | 5 => 5 | 173 => 90 | 212 => 128 | 51 => 71 | 20 => 20 | 213 => 129 | 46 => 54 | 232 => 281 | 233 => 282 | n => n, fun | 17 => 1 | 18 => 2 | 19 => 3 | n => n⟩
theorem Tryz.R6 : Go.Proofs.LaysM.n171 Tryz.prog Tryz.F4 := {
 mixed := by kernel_rfl
 f129 := Tryz.func49.trans (congrArg some (by kernel_rfl))
 f171 := Tryz.func9.trans (congrArg some (by kernel_rfl))
 f243 := Tryz.func20.trans (congrArg some (by kernel_rfl))
 f246 := Tryz.func27.trans (congrArg some (by kernel_rfl))
 f283 := Tryz.func33.trans (congrArg some (by kernel_rfl))
 f284 := Tryz.func34.trans (congrArg some (by kernel_rfl))
 f285 := Tryz.func35.trans (congrArg some (by kernel_rfl))
 f286 := Tryz.func36.trans (congrArg some (by kernel_rfl))
 f317 := Tryz.func48.trans (congrArg some (by kernel_rfl))
 f318 := Tryz.func50.trans (congrArg some (by kernel_rfl))
 f319 := Tryz.func51.trans (congrArg some (by kernel_rfl))
 f320 := Tryz.func52.trans (congrArg some (by kernel_rfl))
 f337 := Tryz.func92.trans (congrArg some (by kernel_rfl))
 f338 := Tryz.func93.trans (congrArg some (by kernel_rfl))
 t0 := Tryz.underlying0
 a0 := Tryz.isAgg0
 z0 := Tryz.sizeOf0
 v0 := Tryz.zeroValue0
 t2 := Tryz.underlying2
 a2 := Tryz.isAgg2
 z2 := Tryz.sizeOf2
 v2 := Tryz.zeroValue2
 t3 := Tryz.underlying3
 a3 := Tryz.isAgg3
 z3 := Tryz.sizeOf3
 v3 := Tryz.zeroValue3
 t4 := Tryz.underlying4
 a4 := Tryz.isAgg4
 z4 := Tryz.sizeOf4
 v4 := Tryz.zeroValue4
 t5 := Tryz.underlying5
 a5 := Tryz.isAgg5
 z5 := Tryz.sizeOf5
 v5 := Tryz.zeroValue5
 t9 := Tryz.underlying9
 a9 := Tryz.isAgg9
 z9 := Tryz.sizeOf9
 v9 := Tryz.zeroValue9
 t20 := Tryz.underlying20
 a20 := Tryz.isAgg20
 z20 := Tryz.sizeOf20
 v20 := Tryz.zeroValue20
 t37 := Tryz.underlying59
 a37 := Tryz.isAgg59
 z37 := Tryz.sizeOf59
 v37 := Tryz.zeroValue59
 t46 := Tryz.underlying54
 a46 := Tryz.isAgg54
 z46 := Tryz.sizeOf54
 v46 := Tryz.zeroValue54
 t51 := Tryz.underlying71
 a51 := Tryz.isAgg71
 z51 := Tryz.sizeOf71
 v51 := Tryz.zeroValue71
 t53 := Tryz.underlying74
 a53 := Tryz.isAgg74
 z53 := Tryz.sizeOf74
 v53 := Tryz.zeroValue74
 t171 := Tryz.underlying87
 a171 := Tryz.isAgg87
 z171 := Tryz.sizeOf87
 v171 := Tryz.zeroValue87
 t173 := Tryz.underlying90
 a173 := Tryz.isAgg90
 z173 := Tryz.sizeOf90
 v173 := Tryz.zeroValue90
 t212 := Tryz.underlying128
 a212 := Tryz.isAgg128
 z212 := Tryz.sizeOf128
 v212 := Tryz.zeroValue128
 t213 := Tryz.underlying129
 a213 := Tryz.isAgg129
 z213 := Tryz.sizeOf129
 t232 := Tryz.underlying281
 a232 := Tryz.isAgg281
 z232 := Tryz.sizeOf281
 v232 := Tryz.zeroValue281
 t233 := Tryz.underlying282
 a233 := Tryz.isAgg282
 z233 := Tryz.sizeOf282
 v233 := Tryz.zeroValue282
 g17 := by kernel_rfl
 g18 := by kernel_rfl
 g19 := by kernel_rfl
 i0 := by kernel_rfl
 i2 := by kernel_rfl
 i3 := by kernel_rfl
 i4 := by kernel_rfl
 i5 := by kernel_rfl
 i9 := by kernel_rfl
 i20 := by kernel_rfl
 i37 := by kernel_rfl
 i46 := by kernel_rfl
 i51 := by kernel_rfl
 i53 := by kernel_rfl
 i171 := by kernel_rfl
 i173 := by kernel_rfl
 i212 := by kernel_rfl
 i232 := by kernel_rfl
 i233 := by kernel_rfl
 m17 := by kernel_rfl
 m18 := by kernel_rfl
 m19 := by kernel_rfl }
def Tryz.F3 : Go.Shelf.Ren := ⟨fun | 172 => 159 | 244 => 211 | 245 => 212 | 247 => 234 | 279 => 235 | 280 => 236 | 281 => 237 | 282 => 238 | 287 => 245 | 316 => 246 | 171 => 9 | 205 => 247 | 321 => 251 | 322 => 252 | 243 => 20 | 246 => 27 | 283 => 33 | 284 => 34 | 285 => 35 | 286 => 36 | 129 => 49 | 317 => 48 | 318 => 50 | 319 => 51 | 320 => 52 | 337 => 92 | 338 => 93 | n => n, fun | 9 => 9 | 3 => 3 | 75 => 64 | 76 => 65 | 4 => 4 | 5 => 5 | 167 => 339 | 37 => 59 | 0 => 0 | 85 => 340 | 2 => 2 | 168 => 342 | 53 => 74 | 175 => 349 | 46 => 54 | 210 => 353 | 127 => 77 | 145 => 360 | 143 => 358 | 21 => 21 | 171 => 87 | 173 => 90 | 212 => 128 | 51 => 71 | 20 => 20 | 213 => 129 | 232 => 281 | 233 => 282 | 80 => 68 | n => n, fun | 15 => 9 | 16 => 10 | 17 => 1 | 18 => 2 | 19 => 3 | n => n⟩
theorem Tryz.zo : Go.Proofs.LaysC.n172 Tryz.prog Tryz.F3 := {
 mixed := by kernel_rfl
 f129 := Tryz.func49.trans (congrArg some (by kernel_rfl))
 f171 := Tryz.func9.trans (congrArg some (by kernel_rfl))
 f172 := Tryz.func159.trans (congrArg some (by kernel_rfl))
 f205 := Tryz.func247.trans (congrArg some (by kernel_rfl))
 f243 := Tryz.func20.trans (congrArg some (by kernel_rfl))
 f244 := Tryz.func211.trans (congrArg some (by kernel_rfl))
 f245 := Tryz.func212.trans (congrArg some (by kernel_rfl))
 f246 := Tryz.func27.trans (congrArg some (by kernel_rfl))
 f247 := Tryz.func234.trans (congrArg some (by kernel_rfl))
 f279 := Tryz.func235.trans (congrArg some (by kernel_rfl))
 f280 := Tryz.func236.trans (congrArg some (by kernel_rfl))
 f281 := Tryz.func237.trans (congrArg some (by kernel_rfl))
 f282 := Tryz.func238.trans (congrArg some (by kernel_rfl))
 f283 := Tryz.func33.trans (congrArg some (by kernel_rfl))
 f284 := Tryz.func34.trans (congrArg some (by kernel_rfl))
 f285 := Tryz.func35.trans (congrArg some (by kernel_rfl))
 f286 := Tryz.func36.trans (congrArg some (by kernel_rfl))
 f287 := Tryz.func245.trans (congrArg some (by kernel_rfl))
 f316 := Tryz.func246.trans (congrArg some (by kernel_rfl))
 f317 := Tryz.func48.trans (congrArg some (by kernel_rfl))
 f318 := Tryz.func50.trans (congrArg some (by kernel_rfl))
 f319 := Tryz.func51.trans (congrArg some (by kernel_rfl))
 f320 := Tryz.func52.trans (congrArg some (by kernel_rfl))
 f321 := Tryz.func251.trans (congrArg some (by kernel_rfl))
 f322 := Tryz.func252.trans (congrArg some (by kernel_rfl))
 f337 := Tryz.func92.trans (congrArg some (by kernel_rfl))
 f338 := Tryz.func93.trans (congrArg some (by kernel_rfl))
 t0 := Tryz.underlying0
 a0 := Tryz.isAgg0
 z0 := Tryz.sizeOf0
 v0 := Tryz.zeroValue0
 t2 := Tryz.underlying2
 a2 := Tryz.isAgg2
 z2 := Tryz.sizeOf2
 v2 := Tryz.zeroValue2
 t3 := Tryz.underlying3
 a3 := Tryz.isAgg3
 z3 := Tryz.sizeOf3
 v3 := Tryz.zeroValue3
 t4 := Tryz.underlying4
 a4 := Tryz.isAgg4
 z4 := Tryz.sizeOf4
 v4 := Tryz.zeroValue4
 t5 := Tryz.underlying5
 a5 := Tryz.isAgg5
 z5 := Tryz.sizeOf5
 v5 := Tryz.zeroValue5
 t9 := Tryz.underlying9
 a9 := Tryz.isAgg9
 z9 := Tryz.sizeOf9
 v9 := Tryz.zeroValue9
 t20 := Tryz.underlying20
 a20 := Tryz.isAgg20
 z20 := Tryz.sizeOf20
 v20 := Tryz.zeroValue20
 t21 := Tryz.underlying21
 a21 := Tryz.isAgg21
 z21 := Tryz.sizeOf21
 v21 := Tryz.zeroValue21
 t37 := Tryz.underlying59
 a37 := Tryz.isAgg59
 z37 := Tryz.sizeOf59
 v37 := Tryz.zeroValue59
 t46 := Tryz.underlying54
 a46 := Tryz.isAgg54
 z46 := Tryz.sizeOf54
 v46 := Tryz.zeroValue54
 t51 := Tryz.underlying71
 a51 := Tryz.isAgg71
 z51 := Tryz.sizeOf71
 v51 := Tryz.zeroValue71
 t53 := Tryz.underlying74
 a53 := Tryz.isAgg74
 z53 := Tryz.sizeOf74
 v53 := Tryz.zeroValue74
 t75 := Tryz.underlying64
 a75 := Tryz.isAgg64
 z75 := Tryz.sizeOf64
 v75 := Tryz.zeroValue64
 t76 := Tryz.underlying65
 a76 := Tryz.isAgg65
 z76 := Tryz.sizeOf65
 v76 := Tryz.zeroValue65
 t85 := Tryz.underlying340
 a85 := Tryz.isAgg340
 z85 := Tryz.sizeOf340
 v85 := Tryz.zeroValue340
 t127 := Tryz.underlying77
 a127 := Tryz.isAgg77
 z127 := Tryz.sizeOf77
 v127 := Tryz.zeroValue77
 t143 := Tryz.underlying358
 a143 := Tryz.isAgg358
 z143 := Tryz.sizeOf358
 v143 := Tryz.zeroValue358
 t145 := Tryz.underlying360
 a145 := Tryz.isAgg360
 z145 := Tryz.sizeOf360
 v145 := Tryz.zeroValue360
 t167 := Tryz.underlying339
 a167 := Tryz.isAgg339
 z167 := Tryz.sizeOf339
 v167 := Tryz.zeroValue339
 t168 := Tryz.underlying342
 a168 := Tryz.isAgg342
 z168 := Tryz.sizeOf342
 v168 := Tryz.zeroValue342
 t171 := Tryz.underlying87
 a171 := Tryz.isAgg87
 z171 := Tryz.sizeOf87
 v171 := Tryz.zeroValue87
 t173 := Tryz.underlying90
 a173 := Tryz.isAgg90
 z173 := Tryz.sizeOf90
 v173 := Tryz.zeroValue90
 t175 := Tryz.underlying349
 a175 := Tryz.isAgg349
 z175 := Tryz.sizeOf349
 v175 := Tryz.zeroValue349
 t210 := Tryz.underlying353
 a210 := Tryz.isAgg353
 z210 := Tryz.sizeOf353
 v210 := Tryz.zeroValue353
 t212 := Tryz.underlying128
 a212 := Tryz.isAgg128
 z212 := Tryz.sizeOf128
 v212 := Tryz.zeroValue128
 t213 := Tryz.underlying129
 a213 := Tryz.isAgg129
 z213 := Tryz.sizeOf129
 t232 := Tryz.underlying281
 a232 := Tryz.isAgg281
 z232 := Tryz.sizeOf281
 v232 := Tryz.zeroValue281
 t233 := Tryz.underlying282
 a233 := Tryz.isAgg282
 z233 := Tryz.sizeOf282
 v233 := Tryz.zeroValue282
 g15 := by kernel_rfl
 g16 := by kernel_rfl
 g17 := by kernel_rfl
 g18 := by kernel_rfl
 g19 := by kernel_rfl
 t80 := Tryz.underlying68
 a80 := Tryz.isAgg68
 z80 := Tryz.sizeOf68
 v80 := Tryz.zeroValue68
 i0 := by kernel_rfl
 i2 := by kernel_rfl
 i3 := by kernel_rfl
 i4 := by kernel_rfl
 i5 := by kernel_rfl
 i9 := by kernel_rfl
 i20 := by kernel_rfl
 i21 := by kernel_rfl
 i37 := by kernel_rfl
 i46 := by kernel_rfl
 i51 := by kernel_rfl
 i53 := by kernel_rfl
 i75 := by kernel_rfl
 i76 := by kernel_rfl
 i80 := by kernel_rfl
 i85 := by kernel_rfl
 i127 := by kernel_rfl
 i143 := by kernel_rfl
 i145 := by kernel_rfl
 i167 := by kernel_rfl
 i168 := by kernel_rfl
 i171 := by kernel_rfl
 i173 := by kernel_rfl
 i175 := by kernel_rfl
 i210 := by kernel_rfl
 i212 := by kernel_rfl
 i232 := by kernel_rfl
 i233 := by kernel_rfl
 m15 := by kernel_rfl
 m16 := by kernel_rfl
 m17 := by kernel_rfl
 m18 := by kernel_rfl
 m19 := by kernel_rfl
 c0 := by kernel_rfl
 c2 := by kernel_rfl
 c3 := by kernel_rfl
 c4 := by kernel_rfl
 c5 := by kernel_rfl
 c9 := by kernel_rfl
 c20 := by kernel_rfl
 c21 := by kernel_rfl
 c37 := by kernel_rfl
 c46 := by kernel_rfl
 c51 := by kernel_rfl
 c53 := by kernel_rfl
 c75 := by kernel_rfl
 c76 := by kernel_rfl
 c80 := by kernel_rfl
 c85 := by kernel_rfl
 c127 := by kernel_rfl
 c143 := by kernel_rfl
 c145 := by kernel_rfl
 c167 := by kernel_rfl
 c168 := by kernel_rfl
 c171 := by kernel_rfl
 c173 := by kernel_rfl
 c175 := by kernel_rfl
 c210 := by kernel_rfl
 c212 := by kernel_rfl
 c213 := by kernel_rfl
 c232 := by kernel_rfl
 c233 := by kernel_rfl }
def Tryz.tK : Go.Shelf.Ren := ⟨fun | 137 => 158 | 217 => 210 | 266 => 233 | n => n, fun | 9 => 9 | 5 => 5 | 3 => 3 | n => n, fun | n => n⟩
theorem Tryz.Cr : Go.Proofs.Lays.n137 Tryz.prog Tryz.tK := {
 mixed := by kernel_rfl
 f137 := Tryz.func158.trans (congrArg some (by kernel_rfl))
 f217 := Tryz.func210.trans (congrArg some (by kernel_rfl))
 f266 := Tryz.func233.trans (congrArg some (by kernel_rfl))
 t3 := Tryz.underlying3
 a3 := Tryz.isAgg3
 z3 := Tryz.sizeOf3
 v3 := Tryz.zeroValue3
 t5 := Tryz.underlying5
 a5 := Tryz.isAgg5
 z5 := Tryz.sizeOf5
 v5 := Tryz.zeroValue5
 t9 := Tryz.underlying9
 a9 := Tryz.isAgg9
 z9 := Tryz.sizeOf9
 v9 := Tryz.zeroValue9 }
end Go.Proofs
namespace Rd
noncomputable def kws : List (Rx.Ty.str.den × Rx.Ty.bool.den) := [((⟨#[98, 101, 103, 105, 110]⟩ : ByteArray), true), ((⟨#[100, 101, 102, 105, 110, 101]⟩ : ByteArray), true), ((⟨#[105, 102]⟩ : ByteArray), true), ((⟨#[108, 97, 109, 98, 100, 97]⟩ : ByteArray), true), ((⟨#[108, 101, 116]⟩ : ByteArray), true), ((⟨#[113, 117, 111, 116, 101]⟩ : ByteArray), true), ((⟨#[114, 101, 99, 111, 114, 100]⟩ : ByteArray), true), ((⟨#[115, 101, 116, 33]⟩ : ByteArray), true), ((⟨#[117, 112, 103, 114, 97, 100, 101]⟩ : ByteArray), true), ((⟨#[119, 97, 115]⟩ : ByteArray), true)]
noncomputable def ars : List (Rx.Ty.str.den × (Rx.Ty.int .i64).den) := [((⟨#[42]⟩ : ByteArray), (2 : Int)), ((⟨#[43]⟩ : ByteArray), (2 : Int)), ((⟨#[45]⟩ : ByteArray), (2 : Int)), ((⟨#[60]⟩ : ByteArray), (2 : Int)), ((⟨#[61]⟩ : ByteArray), (2 : Int)), ((⟨#[99, 97, 114]⟩ : ByteArray), (1 : Int)), ((⟨#[99, 100, 114]⟩ : ByteArray), (1 : Int)), ((⟨#[99, 111, 110, 115]⟩ : ByteArray), (2 : Int)), ((⟨#[101, 113, 63]⟩ : ByteArray), (2 : Int)), ((⟨#[101, 114, 114, 111, 114]⟩ : ByteArray), (1 : Int)), ((⟨#[110, 111, 116]⟩ : ByteArray), (1 : Int)), ((⟨#[110, 117, 108, 108, 63]⟩ : ByteArray), (1 : Int)), ((⟨#[112, 97, 105, 114, 63]⟩ : ByteArray), (1 : Int)), ((⟨#[113, 117, 111, 116, 105, 101, 110, 116]⟩ : ByteArray), (2 : Int)), ((⟨#[114, 101, 109, 97, 105, 110, 100, 101, 114]⟩ : ByteArray), (2 : Int))]
noncomputable def V5 : List Int := [0, 0, 0, 0, 0, 1, 0, 1, 1, 0, 0, 1, 1, 1, 1, 1, 2, 0, 0, 1, 1, 0, 0, 0, 0, 0, 0, 0, 1, 0, 0, 0, 1, 0, 1, 0, 0, 0, 0, 0, 1, 1, 1, 1, 2, 1]
noncomputable def aiG (j : Nat) : Dt := .cell (.int .i64 (V5.getD j 0))
noncomputable def YH : Nat -> Option (Nat × (Nat -> Dt))
 | 4 => some (1, fun _ => .mp .str .bool kws)
 | 5 => some (1, fun _ => .mp .str (.int .i64) ars)
 | 7 => some (1, fun _ => .mp .str (.int .i64) ars)
 | 8 => some (1, fun _ => .mp .str (.int .i64) ars)
 | 6 => some (46, aiG)
 | _ => none
def Vv (w : World) : Prop := ∀ g m f, YH g = some (m, f) -> ∀ j, j < m -> ∃ u, w.cell? ⟨g, j, none⟩ = some u /\ Rep w (f j) u
noncomputable instance : Glob := ⟨fun w => Lib.TabIs prog w "internal/strconv.uint64pow10" .u64 Lib.pow10Tab /\
 (∃ tp p, w.var? prog "strconv.ErrSyntax" = some #[.iface tp p]) /\ (∃ tp p, w.var? prog "strconv.ErrRange" = some #[.iface tp p]) /\ Vv w, YH, fun _ h => h.2.2.2⟩
theorem ou {P : Program} {f : FuncId} {args : List SV} {vs0 : List Value} {s : SV} (hargs : ∀ (C : Ctx) (w : World) (vs : List Value), relL C w args vs -> vs = vs0)
  (h : ∀ w, Glob.ok w -> Calls P f vs0.toArray w fun e w' => ∃ v, e = .returned v /\ Ag (fun _ => False) w w' /\ ∀ C : Ctx, rel C w' s v) : Ctr P f args [] (.ret (s, [])) := by
 intro C w vs post hw _ hn hr hp
 have := hargs C w vs hr
 subst this
 refine (h w hw.gl.here).mono ?_
 rintro e w' ⟨v, rfl, ha, hv⟩
 exact ⟨v, C, (s, []), hp, rfl, dV ha, kP hw ha, hn, hv C, fun i ob hi => by simp at hi⟩
theorem yI {P : Program} {f : FuncId} {args : List SV} {obs : List Ob} {p : Prop} {out : T Out} (h : p -> Ctr P f args obs out) : Ctr P f args obs (.need p out) :=
 fun C w vs post hw ho hn hr hp => h hp.1 C w vs post hw ho hn hr hp.2
theorem VN {P : Program} {f : FuncId} {args : List SV} {obs : List Ob} {b : Bool} {t e : T Out} (h1 : b = true -> Ctr P f args obs t) (h2 : b = false -> Ctr P f args obs e) : Ctr P f args obs (.ite b t e) := by
 intro C w vs post hw ho hn hr hp
 cases hb : b with
 | true => exact h1 hb C w vs post hw ho hn hr (hp.1 hb)
 | false => exact h2 hb C w vs post hw ho hn hr (hp.2 hb)
theorem args1 {x : Value} : ∀ (C : Ctx) (w : World) (vs : List Value), relL C w [.dt (.cell x)] vs -> vs = [x] := by
 rintro C w _ ⟨v, _, rfl, h, rfl⟩
 rw [aj.1 h]
theorem args2 {x y : Value} : ∀ (C : Ctx) (w : World) (vs : List Value), relL C w [.dt (.cell x), .dt (.cell y)] vs -> vs = [x, y] := by
 rintro C w _ ⟨v, _, rfl, h, v', _, rfl, h', rfl⟩
 rw [aj.1 h, aj.1 h']
def ixB (s : ByteArray) (c : Int) : Int := Lib.indexByte s.data.toList c.toNat.toUInt8
theorem Cn (s : ByteArray) (c : Int) : Ctr prog vX [vS s, vI .u8 c] [] (.ret (vI .i64 (ixB s c), [])) := by
 refine ou args2 fun w _ => (Go.Proofs.Any.strings_IndexByte Go.Proofs.Tryz.Cr s c w).mono ?_
 rintro e w' ⟨rfl, rfl⟩
 exact ⟨_, rfl, Ag.refl _ _, fun C => aj.2 rfl⟩
def tJ (n : Int) : ByteArray := ⟨(Lib.itoa n).toArray⟩
def inI (n : Int) : Prop := -9223372036854775808 <= n /\ n <= 9223372036854775807
theorem IG (n : Int) : Ctr prog lQ [vI .i64 n] [] (.need (inI n) (.ret (vS (tJ n), []))) := by
 refine yI fun hn => ou args1 fun w hw => (Go.Proofs.Any.strconv_Itoa Go.Proofs.Tryz.R6 n hn.1 hn.2 w hw.1).mono ?_
 rintro e w' ⟨rfl, k, os, rfl⟩
 refine ⟨_, rfl, ⟨rfl, rfl, rfl, by simp [Sort.grow, World.drewN], fun i hi _ => ?_⟩, fun C => aj.2 rfl⟩
 simp [Sort.grow, World.drewN, Array.getElem?_append, hi]
def lK (s : ByteArray) : Bool := match Lib.atoiAll s.data.toList with
 | .ok _ => true
 | _ => false
def dK (s : ByteArray) : Int := match Lib.atoiAll s.data.toList with
 | .ok v => v
 | _ => 0
def QM (s : ByteArray) : Int := match Lib.atoiAll s.data.toList with
 | .range => Lib.atoiSat s.data.toList
 | _ => 0
def Xt (s : ByteArray) : T Out := .need (s.size <= 281474976710656) (.ite (lK s) (.ret (.tup [vI .i64 (dK s), .dt (.cell .nilIface)], [])) (.ret (.tup [vI .i64 (QM s), .dt .ifc], [])))
theorem r9 {w w' : World} (h : RowKit.Below w.heap.size w w') : Ag (fun _ => False) w w' := ⟨h.os, h.tape, h.output, h.size, fun k hk _ => h.block k hk⟩
theorem QG {w : World} {t : TypeId} {x : ByteArray} : Ag (fun _ => False) w (Lib.bytesWorld w t x) := r9 (Lib.bytesWorld_below _ _ _)
theorem QN (s : ByteArray) : Ctr prog Rt [vS s] [] (Xt s) := by
 refine yI fun hn => VN (fun hb => ?_) fun hb => ?_
 · cases h : Lib.atoiAll s.data.toList with
   | ok v =>
     refine ou args1 fun w hw => (Go.Proofs.Any.strconv_Atoi_ok Go.Proofs.Tryz.zo s (by omega) v h w).mono ?_
     rintro e w' ⟨rfl, hw'⟩
     refine ⟨_, rfl, ?_, fun C => ⟨_, rfl, _, _, rfl, aj.2 (by simp [dK, h]), _, _, rfl, aj.2 rfl, rfl⟩⟩
     rcases hw' with rfl | ⟨t, rfl⟩
     · exact Ag.refl _ _
     · exact QG
   | _ => simp [lK, h] at hb
 · cases h : Lib.atoiAll s.data.toList with
   | ok v => simp [lK, h] at hb
   | range =>
     refine ou args1 fun w hw => ?_
     obtain ⟨tp, p, hv⟩ := hw.2.2.1
     refine (Go.Proofs.Any.strconv_Atoi_range_var Go.Proofs.Tryz.zo s hn h tp p w hv).mono ?_
     rintro e w' ⟨N, rfl, _, _, hb⟩
     exact ⟨_, rfl, r9 hb, fun C => ⟨_, rfl, _, _, rfl, aj.2 (by simp [QM, h]), _, _, rfl, fun w'' _ => ⟨_, _, rfl⟩, rfl⟩⟩
   | _ =>
     refine ou args1 fun w hw => ?_
     obtain ⟨tp, p, hv⟩ := hw.2.1
     refine (Go.Proofs.Any.strconv_Atoi_syntax_var Go.Proofs.Tryz.zo s hn h tp p w hv).mono ?_
     rintro e w' ⟨N, rfl, _, _, hb⟩
     exact ⟨_, rfl, r9 hb, fun C => ⟨_, rfl, _, _, rfl, aj.2 (by simp [QM, h]), _, _, rfl, fun w'' _ => ⟨_, _, rfl⟩, rfl⟩⟩
end Rd
