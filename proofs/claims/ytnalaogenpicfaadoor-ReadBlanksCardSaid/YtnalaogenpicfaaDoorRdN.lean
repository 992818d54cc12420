/- The numbers of this seat: made by mkn.py. -/
import Derived.Test.YtnalaogenpicfaaDoorRxY
import Derived.Test.YtnalaogenpicfaaDoorChecked
import Derived.Lib.LaidTab
set_option linter.unusedSimpArgs false
set_option linter.unusedVariables false
open Rx Go
namespace Rd
noncomputable abbrev prog : Program := Go.Proofs.Tryd.prog
abbrev f_picked : FuncId := 9
noncomputable abbrev c_picked : Func := Go.Proofs.Tryd.f9
abbrev f_ReadTorn : FuncId := 3
noncomputable abbrev c_ReadTorn : Func := Go.Proofs.Tryd.f3
abbrev f_ReadDeep : FuncId := 4
noncomputable abbrev c_ReadDeep : Func := Go.Proofs.Tryd.f4
abbrev f_ReadBlanks : FuncId := 5
noncomputable abbrev c_ReadBlanks : Func := Go.Proofs.Tryd.f5
abbrev f_ReadQuote : FuncId := 6
noncomputable abbrev c_ReadQuote : Func := Go.Proofs.Tryd.f6
abbrev f_ReadBack : FuncId := 7
noncomputable abbrev c_ReadBack : Func := Go.Proofs.Tryd.f7
abbrev f_Expr : FuncId := 8
noncomputable abbrev c_Expr : Func := Go.Proofs.Tryd.f8
abbrev f_Read : FuncId := 10
noncomputable abbrev c_Read : Func := Go.Proofs.Tryd.f10
abbrev f_data : FuncId := 11
noncomputable abbrev c_data : Func := Go.Proofs.Tryd.f11
abbrev f_readTells : FuncId := 12
noncomputable abbrev c_readTells : Func := Go.Proofs.Tryd.f12
abbrev f_EqualFunc : FuncId := 13
noncomputable abbrev c_EqualFunc : Func := Go.Proofs.Tryd.f13
abbrev f_sameDatum : FuncId := 14
noncomputable abbrev c_sameDatum : Func := Go.Proofs.Tryd.f14
abbrev f_Show : FuncId := 15
noncomputable abbrev c_Show : Func := Go.Proofs.Tryd.f15
abbrev f_Check : FuncId := 16
noncomputable abbrev c_Check : Func := Go.Proofs.Tryd.f16
abbrev f_expr : FuncId := 17
noncomputable abbrev c_expr : Func := Go.Proofs.Tryd.f17
abbrev f_blanks : FuncId := 18
noncomputable abbrev c_blanks : Func := Go.Proofs.Tryd.f18
abbrev f_datum : FuncId := 19
noncomputable abbrev c_datum : Func := Go.Proofs.Tryd.f19
abbrev f_Clip : FuncId := 20
noncomputable abbrev c_Clip : Func := Go.Proofs.Tryd.f20
abbrev f_write : FuncId := 21
noncomputable abbrev c_write : Func := Go.Proofs.Tryd.f21
abbrev f_bString : FuncId := 22
noncomputable abbrev c_bString : Func := Go.Proofs.Tryd.f22
abbrev f_check : FuncId := 23
noncomputable abbrev c_check : Func := Go.Proofs.Tryd.f23
abbrev f_next : FuncId := 24
noncomputable abbrev c_next : Func := Go.Proofs.Tryd.f24
abbrev f_Itoa : FuncId := 25
noncomputable abbrev c_Itoa : Func := Go.Proofs.Tryd.f25
abbrev f_local : FuncId := 26
noncomputable abbrev c_local : Func := Go.Proofs.Tryd.f26
abbrev f_sub : FuncId := 27
noncomputable abbrev c_sub : Func := Go.Proofs.Tryd.f27
abbrev f_stop : FuncId := 28
noncomputable abbrev c_stop : Func := Go.Proofs.Tryd.f28
abbrev f_atom : FuncId := 29
noncomputable abbrev c_atom : Func := Go.Proofs.Tryd.f29
abbrev f_bWriteString : FuncId := 30
noncomputable abbrev c_bWriteString : Func := Go.Proofs.Tryd.f30
abbrev f_bWriteByte : FuncId := 31
noncomputable abbrev c_bWriteByte : Func := Go.Proofs.Tryd.f31
abbrev f_symbol : FuncId := 32
noncomputable abbrev c_symbol : Func := Go.Proofs.Tryd.f32
abbrev f_IndexByte : FuncId := 34
noncomputable abbrev c_IndexByte : Func := Go.Proofs.Tryd.f34
abbrev f_Atoi : FuncId := 35
noncomputable abbrev c_Atoi : Func := Go.Proofs.Tryd.f35
abbrev tDatum : TypeId := 37
abbrev tDatums : TypeId := 25
abbrev tBard : TypeId := 45
abbrev tParser : TypeId := 49
abbrev tString : TypeId := 9
abbrev tStrings : TypeId := 33
abbrev tRaw : TypeId := 60
abbrev tRaws : TypeId := 22
abbrev tBardP : TypeId := 43
abbrev tInt : TypeId := 3
end Rd
