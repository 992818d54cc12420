/- What the library's functions, the reader and the small ones tell, for the kernel's evaluator. -/
import Derived.Test.YtcmnmceodhambaaGreatDoorRdC
import Derived.Test.YtcmnmceodhambaaGreatDoorRxX6
set_option linter.unusedSimpArgs false
set_option linter.unusedVariables false
open Rx Go
namespace Gv
open Rd
abbrev tU8 : TypeId := 5
def inB (a b : Int) : Bool := decide (-9223372036854775808 <= a) && decide (b <= 9223372036854775807)
noncomputable def KZ (al : List SV) : T Res := match al with
 | [.dt (.cell (.int .i64 n))] => bif inB n n then .ret ⟨.sy (aC n), .none⟩ else .fail
 | [.ri .i64 a b n] => bif inB a b then .ret ⟨.sy (aC n), .none⟩ else .fail
 | _ => .fail
def xO (al : List SV) : T Res := match al with
 | [.ri .i64 a b n, .dt (.cell (.int .i64 m))] => bif inB a b && (decide (0 < m) && decide (m <= 1000000)) then .ret ⟨.ri .i64 0 (m - 1) (gy n m), .none⟩ else .fail
 | _ => .fail
def okn (n : Nat) : Bool := (Nat.ble 97 n && Nat.ble n 122) || ((Nat.ble 48 n && Nat.ble n 57) || [43, 45, 42, 47, 60, 62, 61, 63, 33, 95].any fun m => Nat.beq n m)
def Ka (s : ByteArray) : Bool :=
 decide (1 <= s.size /\ s.size <= 16 /\ ¬ (48 <= ay s 0 /\ ay s 0 <= 57) /\ (s.size = 1 ∨ ay s 0 ≠ 45 ∨ ay s 1 < 48 ∨ 57 < ay s 1)) && s.data.toList.all fun b => okn b.toNat
def wW (al : List SV) : T Res := match al with
 | [x] => match nP x with
   | some s => .ret ⟨.kb (Ka s), .none⟩
   | none => .fail
 | _ => .fail
def Ny (i : Nat) : SV -> Bool
 | .ptr j 5 => Nat.beq i j
 | .dt (.cell (.pointer none)) => true
 | _ => false
def row0 : Nat -> Nat -> Dt := fun _ _ => aV
def Rb (g : Nat -> Option Ob) (new : Nat) (p : SV) (ok : Nat -> Prop) (N : Nat -> Nat) (fn : Nat -> (Nat -> Nat -> Dt) -> Nat -> Nat -> Dt) : T Res := match p with
 | .ptr i 5 => match g i with
   | some (.cells 254 [x0, x1, x2, x3, x4, A, B, x7]) => bif Ny i A && Nat.blt i new then (match B with
     | .nm j => match g j with
       | some (.row 5 1 n f) => bif !Nat.beq i j && Nat.blt j new then .need (ok n) (.ret ⟨.junk, ⟨[(i, some (.cells 254 [x0, x1, x2, x3, x4, .ptr i 5, .nm new, x7])), (j, none), (new, some (.row 5 1 (N n) (fn n f)))], [new]⟩⟩) else .fail
       | _ => .fail
     | .dt (.cell (.slice none 0 0)) => .need (ok 0) (.ret ⟨.junk, ⟨[(i, some (.cells 254 [x0, x1, x2, x3, x4, .ptr i 5, .nm (new + 1), x7])), (new, none), (new + 1, some (.row 5 1 (N 0) (fn 0 row0)))], [new, new + 1]⟩⟩)
     | _ => .fail) else .fail
   | _ => .fail
 | _ => .fail
def LU : Dt -> UInt8
 | .cell (.int _ n) => n.toNat.toUInt8
 | _ => 0
def kD (n : Nat) (f : Nat -> Nat -> Dt) : List UInt8 := (List.range n).map fun k => LU (f k 0)
def rG (n : Nat) (f : Nat -> Nat -> Dt) : Prop := 0 < n /\ n <= 100000 /\ ∀ k, k < n -> f k 0 = .cell (.int .u8 ((LU (f k 0)).toNat))
def VN (g : Nat -> Option Ob) (p : SV) : T Res := match p with
 | .ptr i 5 => match g i with
   | some (.cells 254 [_, _, _, _, _, _, .nm j, _]) => match g j with
     | some (.row 5 1 n f) => .need (rG n f) (.ret ⟨.sy ⟨(kD n f).toArray⟩, ⟨[(j, none)], []⟩⟩)
     | _ => .fail
   | _ => .fail
 | _ => .fail
def wsR (al : List SV) (g : Nat -> Option Ob) (new : Nat) : T Res := match al with
 | [p, x] => match nP x with
   | some s => Rb g new p (fun n => n + s.size <= 100000) (fun n => n + s.size) fun n f => Rx.bP n f (kP s)
   | none => .fail
 | _ => .fail
def wbR (al : List SV) (g : Nat -> Option Ob) (new : Nat) : T Res := match al with
 | [p, .dt (.cell (.int .u8 c))] => Rb g new p (fun n => n <= 100000) (fun n => n + 1) fun n f => Rx.bP n f (iK 1 [.cell (.int .u8 c)])
 | _ => .fail
def bsR (al : List SV) (g : Nat -> Option Ob) : T Res := match al with
 | [p] => VN g p
 | _ => .fail
inductive Dx where
 | mk (k : Int) (sym : Option (Int × Int)) (n : Int) (s : ByteArray) (l : List Dx)
mutual
def Dx.dm : Dx -> Dm
 | .mk k _ n s l => .mk k n s (oU l)
def oU : List Dx -> List Dm
 | [] => []
 | d :: l => d.dm :: oU l
end
def nD (sym : Option (Int × Int)) (n : Int) : Dt := match sym with
 | some (a, b) => .ri .i64 a b n
 | none => .cell (.int .i64 n)
mutual
def dxT : Dx -> Nat -> Dt
 | .mk k sym n s l, j => match j with
   | 0 => .cell (.int .i64 k)
   | 1 => nD sym n
   | 2 => .cell (.string s)
   | _ => .arr 4 l.length (dxL l)
def dxL : List Dx -> Nat -> Nat -> Dt
 | [], _, _ => aV
 | d :: l, i, j => match i with
   | 0 => dxT d j
   | i + 1 => dxL l i j
end
def SG : List (Nat × List Dx) -> Nat -> Option (List Dx)
 | [], _ => none
 | x :: l, n => bif Nat.beq x.1 n then some x.2 else SG l n
mutual
def Dx.fits : Dx -> Prop
 | .mk _ sym n _ l => (∀ a b, sym = some (a, b) -> a <= n /\ n <= b) /\ nJ l
def nJ : List Dx -> Prop
 | [] => True
 | d :: l => d.fits /\ nJ l
end
def jX (tbl : List (Nat × List Dx)) (al : List SV) (new : Nat) : T Res := match al with
 | [x] => match nP x with
   | some s => match SG tbl new with
     | some r => .need (s.size <= 3000 /\ oC 400 s = some ⟨oU r, 0, 0⟩ /\ nJ r) (.ret ⟨.tup [.dt (.arr 4 r.length (dxL r)), .ki .i64 0, .ki .i64 0], .none⟩)
     | none => .fail
   | none => .fail
 | _ => .fail
def mkS (f : List SV -> (Nat -> Option Ob) -> Nat -> T Res) : Summ := ⟨false, fun _ _ _ => [], fun al g new _ => f al g new⟩
noncomputable def F (tbl : List (Nat × List Dx)) : FuncId -> Option Summ
 | 15 => some (mkS fun al _ _ => KZ al)
 | 16 => some (mkS fun al _ _ => xO al)
 | 27 => some (mkS fun al _ new => jX tbl al new)
 | 150 => some (mkS fun al _ _ => wW al)
 | 35 => some (mkS fun al g new => wsR al g new)
 | 37 => some (mkS fun al g _ => bsR al g)
 | 233 => some (mkS fun al g new => wbR al g new)
 | _ => none
end Gv
open Rx Go
namespace Gv
def flT : List Nat := [0, 0, 0, 499, 755, 4398046514675, 1533, 499, 61, 61, 125, 2951479051793528489917, 2147541501, 4311773693, 125, 5, 83, 134218099, 19, 5, 1011, 550024775543, 287, 10404955393597153145976807980556275, 138351151749653378483, 5, 72092830958489075, 2151679229, 340438784863802128483979929532833333243, 87117612579302472245506388050680964186111, 2365799431568289300655, 503332271, 1011, 19, 2097283, 51, 5, 5, 17188391667, 1126999956395895, 332469263174894200391729021810883583, 33002528829407, 18446745173225377797, 5575228834928520941377797709908061871702515, 5, 18157215038439679, 7, 9463758423473277435790, 21, 19, 2147976127, 1208925819614629243395023, 87750315369776932250847882348651167023103, 141671264965950795945391, 12554203470796218397703502735314585890091069003048985000923, 649056914357777168681793982029691, 158495049540526662882246852543, 75562475420728877916111, 31, 73786976329199001567, 2658460745262000453307381188212558335, 19, 15, 20769187434139864493256809002303871, 19, 15, 202289411479978373988497910215637938362943936408804491263, 19, 15, 68719478911, 2724917391364358146322347105288403879967, 115, 16371, 19, 524353, 19, 21, 13, 2923003971560093291123168138537876760321514930163, 20426010943356750102455122975, 1967, 8796095383799, 1125934270793727, 5070621744279577877710705768951, 2119, 4845148088266925705003251, 5, 1090769183, 19, 15, 2554179786055560887369990570199, 2097183, 142147677, 15, 65565, 66483, 504373101, 66483, 15, 2540253602857752340990790502359, 4377871547, 541255, 604462909811721240584143, 31, 19, 15, 7, 31, 31, 1047, 21, 21, 21, 21, 16806963, 1099511636471, 36028831412389887, 132215, 19, 15, 304895327062271829692732351779820974356307, 288230377226537975, 504373101, 66483, 15, 536871247, 4835703315050263671210995, 158456929491438482501677359485, 182687704666529018274933718573648359936602015735, 18446884948641054935, 66483, 7, 66483, 191562307986433075708231270773625842275991812479389695, 19, 159, 0, 0, 5, 16661, 13, 5, 5, 9665836393425380052274427992039, 22128178210873083698507421159, 7, 311941821002213275355054167, 36046389272383487, 4295491835, 19, 281475037528093, 4157, 21, 7, 65619, 33824967, 531, 19, 66631, 21270244091048602060916999595220797199, 16071, 79247505327954711886749236495, 15, 19, 15, 15, 66483, 164804481567692979617900529862607, 15, 66483, 15, 79, 2097179, 155, 730750992890023971659443030895836030932479900659, 66483, 7, 65619, 56542776022183744906655527327236205378149232952363318351474535186628152295, 115, 11, 2147483659, 7, 19, 31, 31, 66483, 21, 21, 534619, 21, 8647, 27, 5, 11692372545892507385973932188700941862030062829391, 2175, 604467521493333015806039, 1008806350890730351, 314748133707623186461, 131103, 19, 73861163094217066365, 17247509535, 66483, 1100518301127, 19, 1099511892423, 51, 19, 344605, 2508761716333010747519, 1180727293855210177399, 303, 1991, 4503603922338759, 71, 1267921399612111308807989246927, 343, 19, 2305845208522166031, 45, 619576846050668277445704647, 8796093023175, 2417852215725195025154023, 66483, 15, 15, 7, 3848417613915, 515, 3, 24792424299012852635503, 4759296035032941069479, 19, 0, 594912002450663878599, 19, 19, 71, 71, 21, 563, 147, 5, 5, 5, 1, 154819280259579954382243831, 5070602405635356146450498059295, 262411, 17592186052659, 983399, 2147484263, 749019592093908130998168547243562859198691857383367, 77, 5, 19, 295147905181504570311, 66483, 5, 3259264009699125022261772349, 0, 3, 3, 525, 0, 0, 0, 0, 0, 0, 0, 0, 0, 0, 0, 0, 0, 0, 0, 0, 0, 0, 0, 0, 0, 0, 0, 0, 0, 0, 0, 0, 0, 0, 0, 0, 0, 0]
def fl (f : Nat) : Nat := flT.getD f 0
def win (f n _r : Nat) : Nat := match f with
 | 161 => Nat.pow 2 (n - 75)
 | 206 => Nat.pow 2 (n - 75)
 | 102 => 16384
 | 57 => 8192
 | 120 => 4096
 | 174 => 4096
 | 29 => 131072
 | 40 => 131072
 | 6 => 1048576
 | _ => 64
noncomputable def go (tbl : List (Nat × List Dx)) (f : FuncId) (al : List SV) : R := Dy Rd.prog (F tbl) fl win 4000 100 16000000 0 f al .nil 0 fun s ob nb => .ret (s, ⟨ob, nb⟩)
end Gv
set_option linter.unusedSimpArgs false
set_option linter.unusedVariables false
open Rx Go
namespace Rd
def At (s : ByteArray) (a : Nat) (t : List UInt8) : Prop := a <= s.size /\ s.data.toList.drop a = t
theorem Ru (s : ByteArray) : s.data.toList.length = s.size := rfl
theorem at_len {s : ByteArray} {a : Nat} {t : List UInt8} (h : At s a t) : a + t.length = s.size := by
 have h1 : t.length = s.data.toList.length - a := by rw [← h.2, List.length_drop]
 have := Ru s
 have := h.1
 omega
theorem zJ {s : ByteArray} {a : Nat} {u t : List UInt8} (h : At s a (u ++ t)) : At s (a + u.length) t := by
 have hl := at_len h
 rw [List.length_append] at hl
 refine ⟨by omega, ?_⟩
 rw [← List.drop_drop, h.2, List.drop_left]
theorem bS {s : ByteArray} {a : Nat} {b : UInt8} {t : List UInt8} (h : At s a (b :: t)) : At s (a + 1) t /\ ay s a = b.toNat /\ (a : Int) < s.size := by
 have hl := at_len h
 rw [List.length_cons] at hl
 have h1 : At s (a + 1) t := zJ (u := [b]) h
 refine ⟨h1, ?_, by omega⟩
 have h2 : s.data.toList[a]? = some b := by
  have : (s.data.toList.drop a)[0]? = some b := by rw [h.2]; rfl
  rw [List.getElem?_drop] at this
  simpa using this
 unfold ay
 rw [List.getD_eq_getElem?_getD, Int.toNat_natCast, h2]
 rfl
theorem at_nil {s : ByteArray} {a : Nat} (h : At s a []) : (a : Int) = s.size := by
 have := at_len h
 simp only [List.length_nil] at this; omega
theorem QZ (s : ByteArray) : At s 0 s.data.toList := ⟨Nat.zero_le _, rfl⟩
theorem Qg : ∀ n, n < 256 -> okc ((n : Nat) : Int) = Gv.okn n := by decide +kernel
theorem Cq {s : ByteArray} : ∀ (t : List UInt8) (a : Nat), At s a t -> rJ s a = t.all fun b => Gv.okn b.toNat
 | [], a, h => by
   have := at_nil h
   rw [rJ, if_neg (by omega)]; rfl
 | b :: t, a, h => by
   obtain ⟨h1, h2, h3⟩ := bS h
   rw [rJ, if_pos h3, h2, Qg _ b.toNat_lt, show (a : Int) + 1 = ((a + 1 : Nat) : Int) by omega, Cq t (a + 1) h1]
   rfl
theorem PN (s : ByteArray) : Gv.Ka s = nQ s := by
 unfold Gv.Ka nQ
 congr 1
 exact (Cq _ 0 (QZ s)).symm
theorem Bq (a : Nat) : ((a + 1 : Nat) : Int) = (a : Int) + 1 := by omega
theorem O5 {s : ByteArray} {a : Nat} {b : UInt8} {t : List UInt8} (h : At s a (b :: t)) (hb : b.toNat = 32 ∨ b.toNat = 10 ∨ b.toNat = 9) : blk s a = blk s ((a + 1 : Nat) : Int) := by
 obtain ⟨_, h1, h2⟩ := bS h
 rw [blk.eq_1 s a, if_pos h2, if_pos (by omega), Bq]
theorem Vx {s : ByteArray} {a : Nat} {b : UInt8} {t : List UInt8} (h : At s a (b :: t)) (hb : b.toNat = 59) : blk s a = blk s (cmt s ((a + 1 : Nat) : Int)) := by
 obtain ⟨_, h1, h2⟩ := bS h
 rw [blk.eq_1 s a, if_pos h2, if_neg (by omega), if_pos (by omega), Bq]
theorem kH {s : ByteArray} {a : Nat} {b : UInt8} {t : List UInt8} (h : At s a (b :: t)) (hb : ¬ (b.toNat = 32 ∨ b.toNat = 10 ∨ b.toNat = 9 ∨ b.toNat = 59)) : blk s a = a := by
 obtain ⟨_, h1, h2⟩ := bS h
 rw [blk, if_pos h2, if_neg (by omega), if_neg (by omega)]
theorem J2 {s : ByteArray} {a : Nat} (h : At s a []) : blk s a = a := by
 have := at_nil h
 rw [blk, if_neg (by omega)]
theorem XC {s : ByteArray} {a : Nat} {b : UInt8} {t : List UInt8} (h : At s a (b :: t)) (hb : b.toNat ≠ 10) : cmt s a = cmt s ((a + 1 : Nat) : Int) := by
 obtain ⟨_, h1, h2⟩ := bS h
 rw [cmt.eq_1 s a, if_pos ⟨h2, by omega⟩, Bq]
theorem V6 {s : ByteArray} {a : Nat} {b : UInt8} {t : List UInt8} (h : At s a (b :: t)) (hb : b.toNat = 10) : cmt s a = a := by
 obtain ⟨_, h1, h2⟩ := bS h
 rw [cmt, if_neg (by omega)]
theorem WM {s : ByteArray} {a : Nat} (h : At s a []) : cmt s a = a := by
 have := at_nil h
 rw [cmt, if_neg (by omega)]
def pK (b : UInt8) : Bool := !(b.toNat == 32 || b.toNat == 10 || b.toNat == 9 || b.toNat == 40 || b.toNat == 41 || b.toNat == 59 || b.toNat == 39)
theorem Rw : ∀ n, n < 256 -> (decide (ixB delims ((n : Nat) : Int) < 0)) = !(n == 32 || n == 10 || n == 9 || n == 40 || n == 41 || n == 59 || n == 39) := by decide +kernel
theorem NP (b : UInt8) : (ixB delims (b.toNat : Int) < 0) ↔ pK b = true := by
 have h := Rw b.toNat b.toNat_lt
 unfold pK
 rw [← h, decide_eq_true_eq]
def stops : List UInt8 -> Bool
 | [] => true
 | b :: _ => !pK b
theorem vD {s : ByteArray} {post : List UInt8} (hp : stops post = true) : ∀ (w : List UInt8) (a : Nat), At s a (w ++ post) -> (w.all pK) = true -> bg s a = ((a + w.length : Nat) : Int)
 | [], a, h, _ => by
   have e : ((a + ([] : List UInt8).length : Nat) : Int) = a := by simp
   rw [e]
   match post, hp, h with
   | [], _, h => have := at_nil h; rw [bg, if_neg (by omega)]
   | b :: t, hp, h =>
     obtain ⟨_, h1, h2⟩ := bS h
     have hn : ¬ ixB delims (ay s a) < 0 := by
       rw [h1, NP]
       simpa [stops] using hp
     rw [bg, if_neg (fun h => hn h.2)]
 | b :: w, a, h, hw => by
   simp only [List.all_cons, Bool.and_eq_true] at hw
   obtain ⟨h0, h1, h2⟩ := bS h
   have hn : ixB delims (ay s a) < 0 := by rw [h1, NP]; exact hw.1
   have ih := vD hp w (a + 1) h0 hw.2
   rw [bg, if_pos ⟨h2, hn⟩, ← Bq, ih]
   simp only [List.length_cons]; omega
theorem Qm {s : ByteArray} {post w : List UInt8} {a : Nat} (hp : stops post = true) (h : At s a (w ++ post)) (hw : (w.all pK) = true) : aJ s a a = ⟨w.toArray⟩ := by
 have e := vD hp w a h hw
 unfold aJ
 rw [e]
 simp only [Int.toNat_natCast]
 have hx : (s.extract a (a + w.length)).data = w.toArray := by
  apply Array.ext'
  simp only [ByteArray.data_extract, Array.toList_extract]
  rw [List.extract_eq_take_drop, h.2]
  simp
 exact ByteArray.ext hx
def okW (w : List UInt8) : Bool := !w.isEmpty && w.all pK && atE ⟨w.toArray⟩ == 0
inductive Sx where
 | wd (w : List UInt8)
 | li (l : List Sx)
 | qu (l : List Sx)
mutual
def sxT : Sx -> List UInt8
 | .wd w => w
 | .li l => 40 :: (lG l ++ [41])
 | .qu l => 39 :: 40 :: (lG l ++ [41])
def jA : List Sx -> List UInt8
 | [] => []
 | x :: l => 32 :: (sxT x ++ jA l)
def lG : List Sx -> List UInt8
 | [] => []
 | x :: l => sxT x ++ jA l
end
mutual
def sxD : Sx -> Dm
 | .wd w => atD ⟨w.toArray⟩
 | .li l => .mk 4 0 noS (l8 l)
 | .qu l => .mk 4 0 noS [.mk 3 0 mI [], .mk 4 0 noS (l8 l)]
def l8 : List Sx -> List Dm
 | [] => []
 | x :: l => sxD x :: l8 l
end
mutual
def sxC : Sx -> Nat
 | .wd _ => 1
 | .li l => 1 + jy l
 | .qu l => 2 + jy l
def jy : List Sx -> Nat
 | [] => 0
 | x :: l => sxC x + jy l
end
mutual
def sxH : Sx -> Nat
 | .wd _ => 1
 | .li l => 1 + wP l
 | .qu l => 2 + wP l
def wP : List Sx -> Nat
 | [] => 0
 | x :: l => max (sxH x) (wP l)
end
mutual
def okX : Sx -> Bool
 | .wd w => okW w
 | .li l => rz l
 | .qu l => rz l
def rz : List Sx -> Bool
 | [] => true
 | x :: l => okX x && rz l
end
theorem yR {w : List UInt8} (h : okW w = true) : ∃ b t, w = b :: t /\ pK b = true := by
 simp only [okW, Bool.and_eq_true] at h
 match w, h with
 | [], h => simp at h
 | b :: t, h =>
   simp only [List.all_cons, Bool.and_eq_true] at h
   exact ⟨b, t, rfl, h.1.2.1⟩
theorem CB {b : UInt8} (h : pK b = true) : ¬ (b.toNat = 32 ∨ b.toNat = 10 ∨ b.toNat = 9 ∨ b.toNat = 59) /\ b.toNat ≠ 40 /\ b.toNat ≠ 41 /\ b.toNat ≠ 39 := by
 simp only [pK, Bool.not_eq_true', Bool.or_eq_false_iff, beq_eq_false_iff_ne] at h
 omega
theorem pO {x : Sx} (h : okX x = true) : ∃ b t, sxT x = b :: t /\ ¬ (b.toNat = 32 ∨ b.toNat = 10 ∨ b.toNat = 9 ∨ b.toNat = 59) /\ b.toNat ≠ 41 := by
 cases x with
 | wd w =>
   simp only [okX] at h
   obtain ⟨b, t, e, hb⟩ := yR h
   have := CB hb
   exact ⟨b, t, by simp only [sxT, e], this.1, this.2.2.1⟩
 | li l => exact ⟨40, lG l ++ [41], by simp only [sxT], by decide, by decide⟩
 | qu l => exact ⟨39, 40 :: (lG l ++ [41]), by simp only [sxT], by decide, by decide⟩
theorem WB (x : Sx) : 1 <= sxC x := by
 cases x <;> simp only [sxC] <;> omega
theorem F4 (t : List UInt8) : stops (41 :: t) = true := rfl
theorem zQ (l : List Sx) (t : List UInt8) : stops (jA l ++ 41 :: t) = true := by
 cases l with
 | nil => simp only [jA, List.nil_append]; exact F4 t
 | cons x l => simp only [jA, List.cons_append]; rfl
mutual
def sxF : Sx -> Nat
 | .wd _ => 1
 | .li l => qc l + 1
 | .qu l => qc l + 1 + 1
def qc : List Sx -> Nat
 | [] => 1
 | x :: l => max (sxF x) (qc l) + 1
end
def wS (f : Nat) (s : ByteArray) (lv a c : Int) (r : PR) : Prop := iB s f lv a c = some r
def Em (f : Nat) (s : ByteArray) (lv a c : Int) (acc : List Dm) (r : PR) : Prop := jY s f lv a c acc = some r
theorem Cg {f g : Nat} {s : ByteArray} {lv a c : Int} {acc : List Dm} {d : Dm} {a' c' : Int} {r : PR} (hb : ¬ (blk s a < s.size /\ ay s (blk s a) = 41)) (hf : wS f s (lv + 1) (blk s a) c ⟨d, a', c', 0⟩) (hg : Em g s lv a' c' (acc ++ [d]) r) : Em (max f g + 1) s lv a c acc r := by
 unfold Em wS at *
 rw [jY, if_neg hb, jR (Nat.le_max_left f g) hf]
 simp only
 rw [if_neg (by simp), Lx (Nat.le_max_right f g) hg]
theorem zA {s : ByteArray} {lv c : Int} {a : Nat} {acc : List Dm} {t : List UInt8} (h : At s a (41 :: t)) : Em 1 s lv a c acc ⟨.mk 4 0 noS acc, a + 1, c, 0⟩ := by
 obtain ⟨_, h1, h2⟩ := bS h
 have hb := kH h (by decide)
 unfold Em
 rw [jY, hb, if_pos ⟨h2, by rw [h1]; rfl⟩]
theorem Bw {f : Nat} {s : ByteArray} {lv c : Int} {a : Nat} {t : List UInt8} {r : PR} (h : At s a (40 :: t)) (hc : c + 1 <= 400) (hl : lv <= 40) (hf : Em f s lv ((a + 1 : Nat) : Int) (c + 1) [] r) : wS (f + 1) s lv a c r := by
 obtain ⟨_, h2, h3⟩ := bS h
 have h2 : ay s a = 40 := by rw [h2]; rfl
 have hb := kH h (by decide)
 unfold Em wS at *
 rw [iB, hb, if_neg (by omega), if_neg (by omega), if_neg (by omega), if_neg (by omega), if_neg (by omega), if_pos h2, ← Bq, hf]
theorem Ju {f : Nat} {s : ByteArray} {lv c : Int} {a : Nat} {t : List UInt8} {r : PR} (h : At s a (39 :: t)) (hc : c + 1 <= 400) (hl : lv <= 40) (hf : wS f s (lv + 1) ((a + 1 : Nat) : Int) (c + 1) r) :
  wS (f + 1) s lv a c ⟨.mk 4 0 noS [.mk 3 0 mI [], r.d], r.a, r.c, r.e⟩ := by
 obtain ⟨_, h2, h3⟩ := bS h
 have h2 : ay s a = 39 := by rw [h2]; rfl
 have hb := kH h (by decide)
 unfold wS at *
 rw [iB, hb, if_neg (by omega), if_neg (by omega), if_neg (by omega), if_neg (by omega), if_pos h2, ← Bq, hf]
 rfl
theorem MB {s : ByteArray} {lv c : Int} {a : Nat} {b : UInt8} {w post : List UInt8} (h : At s a ((b :: w) ++ post)) (hp : stops post = true) (hw : ((b :: w).all pK) = true) (hc : c + 1 <= 400) (hl : lv <= 40) :
  wS 1 s lv a c ⟨atD ⟨(b :: w).toArray⟩, if atE ⟨(b :: w).toArray⟩ = 0 then ((a + (b :: w).length : Nat) : Int) else a, c + 1, atE ⟨(b :: w).toArray⟩⟩ := by
 have h' : At s a (b :: (w ++ post)) := h
 obtain ⟨_, h2, h3⟩ := bS h'
 have hb1 : pK b = true := by simp only [List.all_cons, Bool.and_eq_true] at hw; exact hw.1
 have hn := CB hb1
 have hb := kH h' hn.1
 have e1 := Qm hp h hw
 have e2 := vD hp _ _ h hw
 unfold wS
 rw [iB, hb, if_neg (by omega), if_neg (by omega), if_neg (by omega), if_neg (by omega), if_neg (by omega), if_neg (by omega), e1, e2]
mutual
theorem qQ : ∀ (x : Sx), okX x = true -> ∀ (s : ByteArray) (lv c : Int) (a : Nat) (post : List UInt8), At s a (sxT x ++ post) -> stops post = true -> lv + sxH x <= 41 -> c + sxC x <= 400 ->
  wS (sxF x) s lv a c ⟨sxD x, ((a + (sxT x).length : Nat) : Int), c + sxC x, 0⟩
 | .wd w, hx, s, lv, c, a, post, h, hp, hl, hc => by
   simp only [okX] at hx
   obtain ⟨b, t, rfl, _⟩ := yR hx
   simp only [okW, Bool.and_eq_true, beq_iff_eq] at hx
   simp only [sxT, sxH, sxC, sxD, sxF] at h hl hc ⊢
   have := MB (lv := lv) (c := c) h hp hx.1.2 (by omega) (by omega)
   rw [if_pos hx.2, hx.2] at this
   exact this
 | .li l, hx, s, lv, c, a, post, h, hp, hl, hc => by
   simp only [okX] at hx
   simp only [sxT, sxH, sxC, sxD, sxF] at h hl hc ⊢
   have h' : At s a (40 :: (lG l ++ 41 :: post)) := by simpa using h
   have := BL l hx s lv (c + 1) (a + 1) [] post (bS h').1 (by omega) (by omega)
   refine Bw h' (by omega) (by omega) ?_
   have e1 : ((a + (40 :: (lG l ++ [41])).length : Nat) : Int) = ((a + 1 + (lG l).length + 1 : Nat) : Int) := by simp; omega
   have e2 : c + ((1 + jy l : Nat) : Int) = c + 1 + jy l := by omega
   rw [e1, e2]
   simpa using this
 | .qu l, hx, s, lv, c, a, post, h, hp, hl, hc => by
   simp only [okX] at hx
   simp only [sxT, sxH, sxC, sxD, sxF] at h hl hc ⊢
   have h' : At s a (39 :: 40 :: (lG l ++ 41 :: post)) := by simpa using h
   have h'' := (bS h').1
   have := BL l hx s (lv + 1) (c + 1 + 1) (a + 1 + 1) [] post (bS h'').1 (by omega) (by omega)
   have := Bw (lv := lv + 1) (c := c + 1) h'' (by omega) (by omega) this
   have := Ju (lv := lv) (c := c) h' (by omega) (by omega) this
   have e1 : ((a + (39 :: 40 :: (lG l ++ [41])).length : Nat) : Int) = ((a + 1 + 1 + (lG l).length + 1 : Nat) : Int) := by simp; omega
   have e2 : c + ((2 + jy l : Nat) : Int) = c + 1 + 1 + jy l := by omega
   rw [e1, e2]
   simpa using this
theorem BL : ∀ (l : List Sx), rz l = true -> ∀ (s : ByteArray) (lv c : Int) (a : Nat) (acc : List Dm) (post : List UInt8), At s a (lG l ++ 41 :: post) -> lv + 1 + wP l <= 41 -> c + jy l <= 400 ->
  Em (qc l) s lv a c acc ⟨.mk 4 0 noS (acc ++ l8 l), ((a + (lG l).length + 1 : Nat) : Int), c + jy l, 0⟩
 | [], hx, s, lv, c, a, acc, post, h, hl, hc => by
   simp only [lG, l8, jy, qc, List.nil_append] at h ⊢
   have := zA (lv := lv) (c := c) (acc := acc) h
   simpa using this
 | x :: l, hx, s, lv, c, a, acc, post, h, hl, hc => by
   simp only [rz, Bool.and_eq_true] at hx
   simp only [lG, wP, l8, jy, qc] at h hl hc ⊢
   rw [List.append_assoc] at h
   have h1 := qQ x hx.1 s (lv + 1) c a _ h (zQ l post) (by omega) (by omega)
   obtain ⟨b, t, e, hb, hb'⟩ := pO hx.1
   have h0 : At s a (b :: (t ++ (jA l ++ 41 :: post))) := by rw [e] at h; exact h
   have eb := kH h0 hb
   have hy := (bS h0).2.1
   have h2 := F7 l hx.2 s lv (c + sxC x) (a + (sxT x).length) (acc ++ [sxD x]) post (zJ h) (by omega) (by omega)
   have h3 := Cg (acc := acc) (lv := lv) (a := a) (by rw [eb]; omega) (by rw [eb]; exact h1) h2
   have e1 : ((a + (sxT x ++ jA l).length + 1 : Nat) : Int) = ((a + (sxT x).length + (jA l).length + 1 : Nat) : Int) := by simp; omega
   have e2 : c + ((sxC x + jy l : Nat) : Int) = c + sxC x + jy l := by omega
   rw [e1, e2]
   simpa using h3
theorem F7 : ∀ (l : List Sx), rz l = true -> ∀ (s : ByteArray) (lv c : Int) (a : Nat) (acc : List Dm) (post : List UInt8), At s a (jA l ++ 41 :: post) -> lv + 1 + wP l <= 41 -> c + jy l <= 400 ->
  Em (qc l) s lv a c acc ⟨.mk 4 0 noS (acc ++ l8 l), ((a + (jA l).length + 1 : Nat) : Int), c + jy l, 0⟩
 | [], hx, s, lv, c, a, acc, post, h, hl, hc => by
   simp only [jA, l8, jy, qc, List.nil_append] at h ⊢
   have := zA (lv := lv) (c := c) (acc := acc) h
   simpa using this
 | x :: l, hx, s, lv, c, a, acc, post, h, hl, hc => by
   simp only [rz, Bool.and_eq_true] at hx
   simp only [jA, wP, l8, jy, qc] at h hl hc ⊢
   have h : At s a (32 :: (sxT x ++ (jA l ++ 41 :: post))) := by simpa using h
   have hg := O5 h (.inl rfl)
   have h' := (bS h).1
   have h1 := qQ x hx.1 s (lv + 1) c (a + 1) _ h' (zQ l post) (by omega) (by omega)
   obtain ⟨b, t, e, hb, hb'⟩ := pO hx.1
   have h0 : At s (a + 1) (b :: (t ++ (jA l ++ 41 :: post))) := by rw [e] at h'; exact h'
   have eb := kH h0 hb
   have hy := (bS h0).2.1
   have h2 := F7 l hx.2 s lv (c + sxC x) (a + 1 + (sxT x).length) (acc ++ [sxD x]) post (zJ h') (by omega) (by omega)
   have h3 := Cg (acc := acc) (lv := lv) (a := a) (by rw [hg, eb]; omega) (by rw [hg, eb]; exact h1) h2
   have e1 : ((a + (32 :: (sxT x ++ jA l)).length + 1 : Nat) : Int) = ((a + 1 + (sxT x).length + (jA l).length + 1 : Nat) : Int) := by simp; omega
   have e2 : c + ((sxC x + jy l : Nat) : Int) = c + sxC x + jy l := by omega
   rw [e1, e2]
   simpa using h3
end
theorem CV (s : ByteArray) : ∀ (f : Nat) (a c : Int) (acc : List Dm) (r : RR), lQ s f a c acc = some r -> lQ s (f + 1) a c acc = some r
 | 0, _, _, _, _, h => by simp [lQ] at h
 | f + 1, a, c, acc, r, h => by
   rw [lQ] at h ⊢
   split at h
   · rename_i hlt
     rw [if_pos hlt]
     split at h
     · cases h
     · rename_i q hq
       rw [jR (Nat.le_succ f) hq]
       simp only
       split at h
       · rename_i g; rw [if_pos g]; exact h
       · rename_i g; rw [if_neg g]; exact CV s f _ _ _ _ h
   · rename_i hlt; rw [if_neg hlt]; exact h
theorem uO {s : ByteArray} {f g : Nat} (h : f <= g) {a c : Int} {acc : List Dm} {r : RR} (hr : lQ s f a c acc = some r) : lQ s g a c acc = some r := by
 induction h with
 | refl => exact hr
 | step _ ih => exact CV s _ _ _ _ _ ih
theorem TA {s : ByteArray} {f g : Nat} (h : f <= g) {r : RR} (hr : oC f s = some r) : oC g s = some r := uO h hr
def Jp (f : Nat) (s : ByteArray) (a c : Int) (acc : List Dm) (r : RR) : Prop := lQ s f a c acc = some r
theorem F8 {s : ByteArray} {a c : Int} {acc : List Dm} (h : ¬ a < s.size) : Jp 1 s a c acc ⟨acc, 0, 0⟩ := by unfold Jp; rw [lQ, if_neg h]
theorem Gr {f g : Nat} {s : ByteArray} {a c a' c' : Int} {acc : List Dm} {d : Dm} {r : RR} (h : a < s.size) (hf : wS f s 1 a c ⟨d, a', c', 0⟩) (hg : Jp g s (blk s a') c' (acc ++ [d]) r) : Jp (max f g + 1) s a c acc r := by
 unfold Jp wS at *
 rw [lQ, if_pos h, jR (Nat.le_max_left f g) hf]
 simp only
 rw [if_neg (by simp), uO (Nat.le_max_right f g) hg]
theorem Bj {s : ByteArray} {x : Sx} {post : List UInt8} (hx : okX x = true) {a : Nat} (h : At s a (sxT x ++ post)) : blk s a = a := by
 obtain ⟨b, t, e, hb, _⟩ := pO hx
 have h : At s a (b :: (t ++ post)) := by rw [e] at h; exact h
 exact kH h hb
theorem yG (l : List Sx) : stops (jA l) = true := by
 cases l with
 | nil => rfl
 | cons x l => simp only [jA]; rfl
theorem Cm : ∀ (l : List Sx), rz l = true -> ∀ (s : ByteArray) (c : Int) (a : Nat) (acc : List Dm), At s a (jA l) -> wP l <= 40 -> c + jy l <= 400 -> Jp (qc l) s (blk s a) c acc ⟨acc ++ l8 l, 0, 0⟩
 | [], _, s, c, a, acc, h, _, _ => by
   simp only [jA, l8, qc, List.append_nil] at h ⊢
   have e := J2 h
   rw [e]
   exact F8 (by have := at_nil h; omega)
 | x :: l, hx, s, c, a, acc, h, hl, hc => by
   simp only [rz, Bool.and_eq_true] at hx
   simp only [jA, wP, l8, jy, qc] at h hl hc ⊢
   have hg := O5 h (.inl rfl)
   have h' := (bS h).1
   have e := Bj hx.1 h'
   have h1 := qQ x hx.1 s 1 c (a + 1) _ h' (yG l) (by omega) (by omega)
   have hlt : ((a + 1 : Nat) : Int) < s.size := by
     obtain ⟨b, t, e, _, _⟩ := pO hx.1
     rw [e] at h'
     exact (bS h').2.2
   have h2 := Cm l hx.2 s (c + sxC x) (a + 1 + (sxT x).length) (acc ++ [sxD x]) (zJ h') (by omega) (by omega)
   rw [hg, e]
   have := Gr hlt h1 h2
   simpa using this
theorem Ip {s : ByteArray} (l : List Sx) (hx : rz l = true) (hs : s.data.toList = lG l) (hh : wP l <= 40) (hc : jy l <= 400) (hf : qc l <= 400) : oC 400 s = some ⟨l8 l, 0, 0⟩ := by
 refine uO hf ?_
 show Jp (qc l) s (blk s 0) 0 [] ⟨l8 l, 0, 0⟩
 have h : At s 0 (lG l) := ⟨Nat.zero_le _, hs⟩
 match l, hx, h, hh, hc with
 | [], _, h, _, _ =>
   simp only [lG, l8, qc] at h ⊢
   have e := J2 h
   rw [show (0 : Int) = ((0 : Nat) : Int) from rfl, e]
   exact F8 (by have := at_nil h; omega)
 | x :: l, hx, h, hh, hc =>
   simp only [rz, Bool.and_eq_true] at hx
   simp only [lG, wP, l8, jy, qc] at h hh hc ⊢
   have e := Bj hx.1 h
   have h1 := qQ x hx.1 s 1 0 0 _ h (yG l) (by omega) (by omega)
   have hlt : ((0 : Nat) : Int) < s.size := by
     obtain ⟨b, t, e, _, _⟩ := pO hx.1
     rw [e] at h
     exact (bS h).2.2
   have h2 := Cm l hx.2 s (0 + sxC x) (0 + (sxT x).length) ([] ++ [sxD x]) (zJ h) (by omega) (by omega)
   rw [show (0 : Int) = ((0 : Nat) : Int) from rfl, e]
   have := Gr hlt h1 h2
   simpa using this
theorem lU (a b : ByteArray) : (a ++ b).data.toList = a.data.toList ++ b.data.toList := by
 rw [ByteArray.data_append, Array.toList_append]
def VL (n : Int) : Bool := okW (Lib.itoa n) && (dH ⟨(Lib.itoa n).toArray⟩ == n) && !isT ⟨(Lib.itoa n).toArray⟩ && !isF ⟨(Lib.itoa n).toArray⟩ && !nQ ⟨(Lib.itoa n).toArray⟩ && isN ⟨(Lib.itoa n).toArray⟩ && decide ((Lib.itoa n).length <= 3)
theorem Qf : ∀ n, n < 1000 -> VL ((n : Nat) : Int) = true := by decide +kernel
theorem Hg : ∀ i, i < 50 -> ∀ j, j < 60 -> (Lib.itoa ((60 * i + j : Nat) : Int)).length <= 4 /\ (Lib.itoa (-((60 * i + j : Nat) : Int))).length <= 5 := by decide +kernel
theorem Rj {n : Int} (h0 : 0 <= n) (h1 : n < 3000) : (aC n).size <= 4 := by
 have := (Hg (n.toNat / 60) (by omega) (n.toNat % 60) (by omega)).1
 rw [show 60 * (n.toNat / 60) + n.toNat % 60 = n.toNat by omega, Int.toNat_of_nonneg h0] at this
 exact this
theorem WS {n : Int} (h0 : -3000 < n) (h1 : n < 3000) : (aC n).size <= 5 := by
 by_cases h : 0 <= n
 · have := Rj h h1; omega
 · have := (Hg ((-n).toNat / 60) (by omega) ((-n).toNat % 60) (by omega)).2
   rw [show 60 * ((-n).toNat / 60) + (-n).toNat % 60 = (-n).toNat by omega, Int.toNat_of_nonneg (by omega), Int.neg_neg] at this
   exact this
theorem zF {n : Int} (h0 : 0 <= n) (h1 : n < 1000) : okW (aC n).data.toList = true /\ atD (aC n) = .mk 1 n noS [] /\ (aC n).size <= 3 := by
 have h := Qf n.toNat (by omega)
 rw [Int.toNat_of_nonneg h0] at h
 simp only [VL, Bool.and_eq_true, Bool.not_eq_true', beq_iff_eq, decide_eq_true_eq] at h
 obtain ⟨⟨⟨⟨⟨⟨a1, a2⟩, a3⟩, a4⟩, a5⟩, a6⟩, a7⟩ := h
 refine ⟨a1, ?_, a7⟩
 have e : aC n = ⟨(Lib.itoa n).toArray⟩ := rfl
 unfold atD
 rw [e, a2, a3, a4, a5, a6]
 simp only [Bool.false_eq_true, if_false, if_true]
 rw [if_neg (by omega)]
end Rd
