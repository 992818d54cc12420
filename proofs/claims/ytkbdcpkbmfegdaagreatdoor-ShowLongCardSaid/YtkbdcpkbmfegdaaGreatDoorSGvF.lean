/- What the library's functions, the reader and the small ones tell, for the kernel's evaluator. -/
import Derived.Test.YtkbdcpkbmfegdaaGreatDoorSRdC
import Derived.Test.YtkbdcpkbmfegdaaGreatDoorSRxX6
set_option linter.unusedSimpArgs false
set_option linter.unusedVariables false
open Rx Go
namespace Gv
open Rd
abbrev tU8 : TypeId := 5
def inB (a b : Int) : Bool := decide (-9223372036854775808 <= a) && decide (b <= 9223372036854775807)
noncomputable def wz (al : List SV) : T Res := match al with
 | [.dt (.cell (.int .i64 n))] => bif inB n n then .ret ⟨.sy (tJ n), .none⟩ else .fail
 | [.ri .i64 a b n] => bif inB a b then .ret ⟨.sy (tJ n), .none⟩ else .fail
 | _ => .fail
def xV (al : List SV) : T Res := match al with
 | [.ri .i64 a b n, .dt (.cell (.int .i64 m))] => bif inB a b && (decide (0 < m) && decide (m <= 1000000)) then .ret ⟨.ri .i64 0 (m - 1) (av n m), .none⟩ else .fail
 | _ => .fail
def okn (n : Nat) : Bool := (Nat.ble 97 n && Nat.ble n 122) || ((Nat.ble 48 n && Nat.ble n 57) || [43, 45, 42, 47, 60, 62, 61, 63, 33, 95].any fun m => Nat.beq n m)
def OZ (s : ByteArray) : Bool :=
 decide (1 <= s.size /\ s.size <= 16 /\ ¬ (48 <= au s 0 /\ au s 0 <= 57) /\ (s.size = 1 ∨ au s 0 ≠ 45 ∨ au s 1 < 48 ∨ 57 < au s 1)) && s.data.toList.all fun b => okn b.toNat
def yc (al : List SV) : T Res := match al with
 | [x] => match jy x with
   | some s => .ret ⟨.kb (OZ s), .none⟩
   | none => .fail
 | _ => .fail
def Kw (i : Nat) : SV -> Bool
 | .ptr j 5 => Nat.beq i j
 | .dt (.cell (.pointer none)) => true
 | _ => false
def row0 : Nat -> Nat -> Dt := fun _ _ => aR
def Qd (g : Nat -> Option Ob) (new : Nat) (p : SV) (ok : Nat -> Prop) (N : Nat -> Nat) (fn : Nat -> (Nat -> Nat -> Dt) -> Nat -> Nat -> Dt) : T Res := match p with
 | .ptr i 5 => match g i with
   | some (.cells 187 [x0, x1, x2, x3, x4, A, B, x7]) => bif Kw i A && Nat.blt i new then (match B with
     | .nm j => match g j with
       | some (.row 5 1 n f) => bif !Nat.beq i j && Nat.blt j new then .need (ok n) (.ret ⟨.junk, ⟨[(i, some (.cells 187 [x0, x1, x2, x3, x4, .ptr i 5, .nm new, x7])), (j, none), (new, some (.row 5 1 (N n) (fn n f)))], [new]⟩⟩) else .fail
       | _ => .fail
     | .dt (.cell (.slice none 0 0)) => .need (ok 0) (.ret ⟨.junk, ⟨[(i, some (.cells 187 [x0, x1, x2, x3, x4, .ptr i 5, .nm (new + 1), x7])), (new, none), (new + 1, some (.row 5 1 (N 0) (fn 0 row0)))], [new, new + 1]⟩⟩)
     | _ => .fail) else .fail
   | _ => .fail
 | _ => .fail
def Pm : Dt -> UInt8
 | .cell (.int _ n) => n.toNat.toUInt8
 | _ => 0
def nS (n : Nat) (f : Nat -> Nat -> Dt) : List UInt8 := (List.range n).map fun k => Pm (f k 0)
def QV (n : Nat) (f : Nat -> Nat -> Dt) : Prop := 0 < n /\ n <= 100000 /\ ∀ k, k < n -> f k 0 = .cell (.int .u8 ((Pm (f k 0)).toNat))
def Wh (g : Nat -> Option Ob) (p : SV) : T Res := match p with
 | .ptr i 5 => match g i with
   | some (.cells 187 [_, _, _, _, _, _, .nm j, _]) => match g j with
     | some (.row 5 1 n f) => .need (QV n f) (.ret ⟨.sy ⟨(nS n f).toArray⟩, ⟨[(j, none)], []⟩⟩)
     | _ => .fail
   | _ => .fail
 | _ => .fail
def wsR (al : List SV) (g : Nat -> Option Ob) (new : Nat) : T Res := match al with
 | [p, x] => match jy x with
   | some s => Qd g new p (fun n => n + s.size <= 100000) (fun n => n + s.size) fun n f => Rx.gP n f (H9 s)
   | none => .fail
 | _ => .fail
def wbR (al : List SV) (g : Nat -> Option Ob) (new : Nat) : T Res := match al with
 | [p, .dt (.cell (.int .u8 c))] => Qd g new p (fun n => n <= 100000) (fun n => n + 1) fun n f => Rx.gP n f (lV 1 [.cell (.int .u8 c)])
 | _ => .fail
def bsR (al : List SV) (g : Nat -> Option Ob) : T Res := match al with
 | [p] => Wh g p
 | _ => .fail
inductive Dx where
 | mk (k : Int) (sym : Option (Int × Int)) (n : Int) (s : ByteArray) (l : List Dx)
mutual
def Dx.dm : Dx -> Dm
 | .mk k _ n s l => .mk k n s (Ch l)
def Ch : List Dx -> List Dm
 | [] => []
 | d :: l => d.dm :: Ch l
end
def nD (sym : Option (Int × Int)) (n : Int) : Dt := match sym with
 | some (a, b) => .ri .i64 a b n
 | none => .cell (.int .i64 n)
mutual
def dxT : Dx -> Nat -> Dt
 | .mk k sym n s l, j => match j with
   | 0 => .cell (.int .i64 k)
   | 1 => nD sym n
   | 2 => .cell (.string s)
   | _ => .arr 4 l.length (dxL l)
def dxL : List Dx -> Nat -> Nat -> Dt
 | [], _, _ => aR
 | d :: l, i, j => match i with
   | 0 => dxT d j
   | i + 1 => dxL l i j
end
def X7 : List (Nat × List Dx) -> Nat -> Option (List Dx)
 | [], _ => none
 | x :: l, n => bif Nat.beq x.1 n then some x.2 else X7 l n
mutual
def Dx.fits : Dx -> Prop
 | .mk _ sym n _ l => (∀ a b, sym = some (a, b) -> a <= n /\ n <= b) /\ yY l
def yY : List Dx -> Prop
 | [] => True
 | d :: l => d.fits /\ yY l
end
def kE (tbl : List (Nat × List Dx)) (al : List SV) (new : Nat) : T Res := match al with
 | [x] => match jy x with
   | some s => match X7 tbl new with
     | some r => .need (s.size <= 3000 /\ Jq 400 s = some ⟨Ch r, 0, 0⟩ /\ yY r) (.ret ⟨.tup [.dt (.arr 4 r.length (dxL r)), .ki .i64 0, .ki .i64 0], .none⟩)
     | none => .fail
   | none => .fail
 | _ => .fail
def mkS (f : List SV -> (Nat -> Option Ob) -> Nat -> T Res) : Summ := ⟨false, fun _ _ _ => [], fun al g new _ => f al g new⟩
noncomputable def F (tbl : List (Nat × List Dx)) : FuncId -> Option Summ
 | 9 => some (mkS fun al _ _ => wz al)
 | 6 => some (mkS fun al _ _ => xV al)
 | 37 => some (mkS fun al _ new => kE tbl al new)
 | 135 => some (mkS fun al _ _ => yc al)
 | 17 => some (mkS fun al g new => wsR al g new)
 | 19 => some (mkS fun al g _ => bsR al g)
 | 206 => some (mkS fun al g new => wbR al g new)
 | _ => none
end Gv
open Rx Go
namespace Gv
def flT : List Nat := [0, 0, 0, 2147541501, 4311773693, 1100048513011, 83, 134218099, 10404955393597153145976807980556275, 5, 138351151749653378483, 5, 1011, 19, 1011, 19, 2097283, 51, 5, 5, 5, 72092830958489075, 115, 16371, 19, 524353, 19, 17188391667, 1126999956395895, 332469263174894200391729021810883583, 33002528829407, 0, 0, 21, 13, 2923003971560093291123168138537876760321514930163, 20426010943356750102455122975, 2151679229, 287, 340438784863802128483979929532833333243, 87117612579302472245506388050680964186111, 7, 1967, 8796095383799, 73786976329199001567, 1125934270793727, 5070621744279577877710705768951, 141671264965950795945391, 5, 16661, 13, 5, 5, 18446745173225377797, 5575228834928520941377797709908061871702515, 5, 2365799431568289300655, 503332271, 18157215038439679, 9463758423473277435790, 21, 19, 2147976127, 1208925819614629243395023, 87750315369776932250847882348651167023103, 12554203470796218397703502735314585890091069003048985000923, 649056914357777168681793982029691, 158495049540526662882246852543, 75562475420728877916111, 31, 2554179786055560887369990570199, 7, 9665836393425380052274427992039, 22128178210873083698507421159, 19, 7, 132215, 202289411479978373988497910215637938362943936408804491263, 536871247, 4835703315050263671210995, 68719478911, 311941821002213275355054167, 36046389272383487, 2658460745262000453307381188212558335, 158456929491438482501677359485, 18446884948641054935, 4295491835, 182687704666529018274933718573648359936602015735, 21, 21, 21, 21, 21, 21, 2119, 4845148088266925705003251, 19, 15, 20769187434139864493256809002303871, 15, 19, 15, 2724917391364358146322347105288403879967, 5, 1090769183, 19, 15, 2097183, 142147677, 15, 65565, 66483, 504373101, 66483, 15, 2540253602857752340990790502359, 4377871547, 541255, 604462909811721240584143, 31, 19, 15, 31, 31, 1047, 16806963, 1099511636471, 36028831412389887, 19, 15, 304895327062271829692732351779820974356307, 288230377226537975, 504373101, 66483, 15, 281475037528093, 164804481567692979617900529862607, 534619, 21, 8647, 27, 5, 11692372545892507385973932188700941862030062829391, 66483, 191562307986433075708231270773625842275991812479389695, 19, 159, 56542776022183744906655527327236205378149232952363318351474535186628152295, 115, 11, 2175, 604467521493333015806039, 1008806350890730351, 314748133707623186461, 730750992890023971659443030895836030932479900659, 2097179, 131103, 2147483659, 19, 4157, 66483, 7, 21, 7, 65619, 33824967, 531, 19, 66631, 21270244091048602060916999595220797199, 16071, 79247505327954711886749236495, 15, 19, 15, 15, 66483, 15, 66483, 15, 79, 155, 66483, 7, 65619, 344605, 2508761716333010747519, 1180727293855210177399, 7, 3848417613915, 515, 3, 24792424299012852635503, 4759296035032941069479, 31, 31, 66483, 303, 343, 4503603922338759, 19, 2305845208522166031, 45, 619576846050668277445704647, 8796093023175, 2417852215725195025154023, 19, 1991, 71, 1267921399612111308807989246927, 19, 73861163094217066365, 17247509535, 7, 19, 66483, 1100518301127, 19, 1099511892423, 51, 19, 5, 5, 262411, 17592186052659, 983399, 2147484263, 15, 15, 5, 1, 154819280259579954382243831, 5070602405635356146450498059295, 0, 594912002450663878599, 19, 19, 71, 71, 66483, 21, 563, 147, 66483, 295147905181504570311, 749019592093908130998168547243562859198691857383367, 77, 5, 19, 0, 3, 5, 3259264009699125022261772349, 3, 525, 0, 0, 0, 0, 0, 0, 0, 0, 0, 0, 0, 0, 0, 0, 0, 0, 0, 0, 0, 0, 0, 0, 0, 0, 0, 0, 0, 0, 0, 0, 0, 0, 0, 0]
def fl (f : Nat) : Nat := flT.getD f 0
def win (f n _r : Nat) : Nat := match f with
 | 171 => Nat.pow 2 (n - 75)
 | 218 => Nat.pow 2 (n - 75)
 | 118 => 16384
 | 68 => 8192
 | 130 => 4096
 | 154 => 4096
 | 40 => 131072
 | 29 => 131072
 | 6 => 1048576
 | _ => 64
noncomputable def go (tbl : List (Nat × List Dx)) (f : FuncId) (al : List SV) : R := Bp Rd.prog (F tbl) fl win 4000 100 16000000 0 f al .nil 0 fun s ob nb => .ret (s, ⟨ob, nb⟩)
end Gv
set_option linter.unusedSimpArgs false
set_option linter.unusedVariables false
open Rx Go
namespace Rd
def At (s : ByteArray) (a : Nat) (t : List UInt8) : Prop := a <= s.size /\ s.data.toList.drop a = t
theorem Xj (s : ByteArray) : s.data.toList.length = s.size := rfl
theorem at_len {s : ByteArray} {a : Nat} {t : List UInt8} (h : At s a t) : a + t.length = s.size := by
 have h1 : t.length = s.data.toList.length - a := by rw [← h.2, List.length_drop]
 have := Xj s
 have := h.1
 omega
theorem Yj {s : ByteArray} {a : Nat} {u t : List UInt8} (h : At s a (u ++ t)) : At s (a + u.length) t := by
 have hl := at_len h
 rw [List.length_append] at hl
 refine ⟨by omega, ?_⟩
 rw [← List.drop_drop, h.2, List.drop_left]
theorem VD {s : ByteArray} {a : Nat} {b : UInt8} {t : List UInt8} (h : At s a (b :: t)) : At s (a + 1) t /\ au s a = b.toNat /\ (a : Int) < s.size := by
 have hl := at_len h
 rw [List.length_cons] at hl
 have h1 : At s (a + 1) t := Yj (u := [b]) h
 refine ⟨h1, ?_, by omega⟩
 have h2 : s.data.toList[a]? = some b := by
  have : (s.data.toList.drop a)[0]? = some b := by rw [h.2]; rfl
  rw [List.getElem?_drop] at this
  simpa using this
 unfold au
 rw [List.getD_eq_getElem?_getD, Int.toNat_natCast, h2]
 rfl
theorem at_nil {s : ByteArray} {a : Nat} (h : At s a []) : (a : Int) = s.size := by
 have := at_len h
 simp only [List.length_nil] at this; omega
theorem VE (s : ByteArray) : At s 0 s.data.toList := ⟨Nat.zero_le _, rfl⟩
theorem WC : ∀ n, n < 256 -> okc ((n : Nat) : Int) = Gv.okn n := by decide +kernel
theorem CU {s : ByteArray} : ∀ (t : List UInt8) (a : Nat), At s a t -> rC s a = t.all fun b => Gv.okn b.toNat
 | [], a, h => by
   have := at_nil h
   rw [rC, if_neg (by omega)]; rfl
 | b :: t, a, h => by
   obtain ⟨h1, h2, h3⟩ := VD h
   rw [rC, if_pos h3, h2, WC _ b.toNat_lt, show (a : Int) + 1 = ((a + 1 : Nat) : Int) by omega, CU t (a + 1) h1]
   rfl
theorem TD (s : ByteArray) : Gv.OZ s = p9 s := by
 unfold Gv.OZ p9
 congr 1
 exact (CU _ 0 (VE s)).symm
def afe (b : UInt8) : Bool := !(b.toNat == 32 || b.toNat == 10 || b.toNat == 9 || b.toNat == 40 || b.toNat == 41 || b.toNat == 59 || b.toNat == 39)
def okW (w : List UInt8) : Bool := !w.isEmpty && w.all afe && atE ⟨w.toArray⟩ == 0
inductive Sx where
 | wd (w : List UInt8)
 | li (l : List Sx)
 | qu (l : List Sx)
end Rd
