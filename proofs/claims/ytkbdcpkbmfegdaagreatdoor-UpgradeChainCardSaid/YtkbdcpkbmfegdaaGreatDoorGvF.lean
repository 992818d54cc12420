/- What the library's functions, the reader and the small ones tell, for the kernel's evaluator. -/
import Derived.Test.YtkbdcpkbmfegdaaGreatDoorRdC
import Derived.Test.YtkbdcpkbmfegdaaGreatDoorRxX6
set_option linter.unusedSimpArgs false
set_option linter.unusedVariables false
open Rx Go
namespace Gv
open Rd
abbrev tU8 : TypeId := 5
def inB (a b : Int) : Bool := decide (-9223372036854775808 <= a) && decide (b <= 9223372036854775807)
noncomputable def Ow (al : List SV) : T Res := match al with
 | [.dt (.cell (.int .i64 n))] => bif inB n n then .ret ⟨.sy (aL n), .none⟩ else .fail
 | [.ri .i64 a b n] => bif inB a b then .ret ⟨.sy (aL n), .none⟩ else .fail
 | _ => .fail
def Ao (al : List SV) : T Res := match al with
 | [.ri .i64 a b n, .dt (.cell (.int .i64 m))] => bif inB a b && (decide (0 < m) && decide (m <= 1000000)) then .ret ⟨.ri .i64 0 (m - 1) (aR n m), .none⟩ else .fail
 | _ => .fail
def okn (n : Nat) : Bool := (Nat.ble 97 n && Nat.ble n 122) || ((Nat.ble 48 n && Nat.ble n 57) || [43, 45, 42, 47, 60, 62, 61, 63, 33, 95].any fun m => Nat.beq n m)
def Pd (s : ByteArray) : Bool :=
 decide (1 <= s.size /\ s.size <= 16 /\ ¬ (48 <= au s 0 /\ au s 0 <= 57) /\ (s.size = 1 ∨ au s 0 ≠ 45 ∨ au s 1 < 48 ∨ 57 < au s 1)) && s.data.toList.all fun b => okn b.toNat
def Aw (al : List SV) : T Res := match al with
 | [x] => match pG x with
   | some s => .ret ⟨.kb (Pd s), .none⟩
   | none => .fail
 | _ => .fail
def Tt (i : Nat) : SV -> Bool
 | .ptr j 5 => Nat.beq i j
 | .dt (.cell (.pointer none)) => true
 | _ => false
def row0 : Nat -> Nat -> Dt := fun _ _ => aW
def W9 (g : Nat -> Option Ob) (new : Nat) (p : SV) (ok : Nat -> Prop) (N : Nat -> Nat) (fn : Nat -> (Nat -> Nat -> Dt) -> Nat -> Nat -> Dt) : T Res := match p with
 | .ptr i 5 => match g i with
   | some (.cells 187 [x0, x1, x2, x3, x4, A, B, x7]) => bif Tt i A && Nat.blt i new then (match B with
     | .nm j => match g j with
       | some (.row 5 1 n f) => bif !Nat.beq i j && Nat.blt j new then .need (ok n) (.ret ⟨.junk, ⟨[(i, some (.cells 187 [x0, x1, x2, x3, x4, .ptr i 5, .nm new, x7])), (j, none), (new, some (.row 5 1 (N n) (fn n f)))], [new]⟩⟩) else .fail
       | _ => .fail
     | .dt (.cell (.slice none 0 0)) => .need (ok 0) (.ret ⟨.junk, ⟨[(i, some (.cells 187 [x0, x1, x2, x3, x4, .ptr i 5, .nm (new + 1), x7])), (new, none), (new + 1, some (.row 5 1 (N 0) (fn 0 row0)))], [new, new + 1]⟩⟩)
     | _ => .fail) else .fail
   | _ => .fail
 | _ => .fail
def P6 : Dt -> UInt8
 | .cell (.int _ n) => n.toNat.toUInt8
 | _ => 0
def pF (n : Nat) (f : Nat -> Nat -> Dt) : List UInt8 := (List.range n).map fun k => P6 (f k 0)
def LJ (n : Nat) (f : Nat -> Nat -> Dt) : Prop := 0 < n /\ n <= 100000 /\ ∀ k, k < n -> f k 0 = .cell (.int .u8 ((P6 (f k 0)).toNat))
def acw (g : Nat -> Option Ob) (p : SV) : T Res := match p with
 | .ptr i 5 => match g i with
   | some (.cells 187 [_, _, _, _, _, _, .nm j, _]) => match g j with
     | some (.row 5 1 n f) => .need (LJ n f) (.ret ⟨.sy ⟨(pF n f).toArray⟩, ⟨[(j, none)], []⟩⟩)
     | _ => .fail
   | _ => .fail
 | _ => .fail
def wsR (al : List SV) (g : Nat -> Option Ob) (new : Nat) : T Res := match al with
 | [p, x] => match pG x with
   | some s => W9 g new p (fun n => n + s.size <= 100000) (fun n => n + s.size) fun n f => Rx.fK n f (DW s)
   | none => .fail
 | _ => .fail
def wbR (al : List SV) (g : Nat -> Option Ob) (new : Nat) : T Res := match al with
 | [p, .dt (.cell (.int .u8 c))] => W9 g new p (fun n => n <= 100000) (fun n => n + 1) fun n f => Rx.fK n f (ni 1 [.cell (.int .u8 c)])
 | _ => .fail
def bsR (al : List SV) (g : Nat -> Option Ob) : T Res := match al with
 | [p] => acw g p
 | _ => .fail
inductive Dx where
 | mk (k : Int) (sym : Option (Int × Int)) (n : Int) (s : ByteArray) (l : List Dx)
mutual
def Dx.dm : Dx -> Dm
 | .mk k _ n s l => .mk k n s (nV l)
def nV : List Dx -> List Dm
 | [] => []
 | d :: l => d.dm :: nV l
end
def nD (sym : Option (Int × Int)) (n : Int) : Dt := match sym with
 | some (a, b) => .ri .i64 a b n
 | none => .cell (.int .i64 n)
mutual
def dxT : Dx -> Nat -> Dt
 | .mk k sym n s l, j => match j with
   | 0 => .cell (.int .i64 k)
   | 1 => nD sym n
   | 2 => .cell (.string s)
   | _ => .arr 4 l.length (dxL l)
def dxL : List Dx -> Nat -> Nat -> Dt
 | [], _, _ => aW
 | d :: l, i, j => match i with
   | 0 => dxT d j
   | i + 1 => dxL l i j
end
def ZJ : List (Nat × List Dx) -> Nat -> Option (List Dx)
 | [], _ => none
 | x :: l, n => bif Nat.beq x.1 n then some x.2 else ZJ l n
mutual
def Dx.fits : Dx -> Prop
 | .mk _ sym n _ l => (∀ a b, sym = some (a, b) -> a <= n /\ n <= b) /\ lV l
def lV : List Dx -> Prop
 | [] => True
 | d :: l => d.fits /\ lV l
end
def lq (tbl : List (Nat × List Dx)) (al : List SV) (new : Nat) : T Res := match al with
 | [x] => match pG x with
   | some s => match ZJ tbl new with
     | some r => .need (s.size <= 3000 /\ qX 400 s = some ⟨nV r, 0, 0⟩ /\ lV r) (.ret ⟨.tup [.dt (.arr 4 r.length (dxL r)), .ki .i64 0, .ki .i64 0], .none⟩)
     | none => .fail
   | none => .fail
 | _ => .fail
def mkS (f : List SV -> (Nat -> Option Ob) -> Nat -> T Res) : Summ := ⟨false, fun _ _ _ => [], fun al g new _ => f al g new⟩
noncomputable def F (tbl : List (Nat × List Dx)) : FuncId -> Option Summ
 | 9 => some (mkS fun al _ _ => Ow al)
 | 6 => some (mkS fun al _ _ => Ao al)
 | 37 => some (mkS fun al _ new => lq tbl al new)
 | 135 => some (mkS fun al _ _ => Aw al)
 | 17 => some (mkS fun al g new => wsR al g new)
 | 19 => some (mkS fun al g _ => bsR al g)
 | 206 => some (mkS fun al g new => wbR al g new)
 | _ => none
end Gv
open Rx Go
namespace Gv
def flT : List Nat := [0, 0, 0, 2147541501, 4311773693, 1100048513011, 83, 134218099, 10404955393597153145976807980556275, 5, 138351151749653378483, 5, 1011, 19, 1011, 19, 2097283, 51, 5, 5, 5, 72092830958489075, 115, 16371, 19, 524353, 19, 17188391667, 1126999956395895, 332469263174894200391729021810883583, 33002528829407, 0, 0, 21, 13, 2923003971560093291123168138537876760321514930163, 20426010943356750102455122975, 2151679229, 287, 340438784863802128483979929532833333243, 87117612579302472245506388050680964186111, 7, 1967, 8796095383799, 73786976329199001567, 1125934270793727, 5070621744279577877710705768951, 141671264965950795945391, 5, 16661, 13, 5, 5, 18446745173225377797, 5575228834928520941377797709908061871702515, 5, 2365799431568289300655, 503332271, 18157215038439679, 9463758423473277435790, 21, 19, 2147976127, 1208925819614629243395023, 87750315369776932250847882348651167023103, 12554203470796218397703502735314585890091069003048985000923, 649056914357777168681793982029691, 158495049540526662882246852543, 75562475420728877916111, 31, 2554179786055560887369990570199, 7, 9665836393425380052274427992039, 22128178210873083698507421159, 19, 7, 132215, 202289411479978373988497910215637938362943936408804491263, 536871247, 4835703315050263671210995, 68719478911, 311941821002213275355054167, 36046389272383487, 2658460745262000453307381188212558335, 158456929491438482501677359485, 18446884948641054935, 4295491835, 182687704666529018274933718573648359936602015735, 21, 21, 21, 21, 21, 21, 2119, 4845148088266925705003251, 19, 15, 20769187434139864493256809002303871, 15, 19, 15, 2724917391364358146322347105288403879967, 5, 1090769183, 19, 15, 2097183, 142147677, 15, 65565, 66483, 504373101, 66483, 15, 2540253602857752340990790502359, 4377871547, 541255, 604462909811721240584143, 31, 19, 15, 31, 31, 1047, 16806963, 1099511636471, 36028831412389887, 19, 15, 304895327062271829692732351779820974356307, 288230377226537975, 504373101, 66483, 15, 281475037528093, 164804481567692979617900529862607, 534619, 21, 8647, 27, 5, 11692372545892507385973932188700941862030062829391, 66483, 191562307986433075708231270773625842275991812479389695, 19, 159, 56542776022183744906655527327236205378149232952363318351474535186628152295, 115, 11, 2175, 604467521493333015806039, 1008806350890730351, 314748133707623186461, 730750992890023971659443030895836030932479900659, 2097179, 131103, 2147483659, 19, 4157, 66483, 7, 21, 7, 65619, 33824967, 531, 19, 66631, 21270244091048602060916999595220797199, 16071, 79247505327954711886749236495, 15, 19, 15, 15, 66483, 15, 66483, 15, 79, 155, 66483, 7, 65619, 344605, 2508761716333010747519, 1180727293855210177399, 7, 3848417613915, 515, 3, 24792424299012852635503, 4759296035032941069479, 31, 31, 66483, 303, 343, 4503603922338759, 19, 2305845208522166031, 45, 619576846050668277445704647, 8796093023175, 2417852215725195025154023, 19, 1991, 71, 1267921399612111308807989246927, 19, 73861163094217066365, 17247509535, 7, 19, 66483, 1100518301127, 19, 1099511892423, 51, 19, 5, 5, 262411, 17592186052659, 983399, 2147484263, 15, 15, 5, 1, 154819280259579954382243831, 5070602405635356146450498059295, 0, 594912002450663878599, 19, 19, 71, 71, 66483, 21, 563, 147, 66483, 295147905181504570311, 749019592093908130998168547243562859198691857383367, 77, 5, 19, 0, 3, 5, 3259264009699125022261772349, 3, 525, 0, 0, 0, 0, 0, 0, 0, 0, 0, 0, 0, 0, 0, 0, 0, 0, 0, 0, 0, 0, 0, 0, 0, 0, 0, 0, 0, 0, 0, 0, 0, 0, 0, 0]
def fl (f : Nat) : Nat := flT.getD f 0
def win (f n _r : Nat) : Nat := match f with
 | 171 => Nat.pow 2 (n - 75)
 | 218 => Nat.pow 2 (n - 75)
 | 118 => 16384
 | 68 => 8192
 | 130 => 4096
 | 154 => 4096
 | 40 => 131072
 | 29 => 131072
 | 6 => 1048576
 | _ => 64
noncomputable def go (tbl : List (Nat × List Dx)) (f : FuncId) (al : List SV) : R := zO Rd.prog (F tbl) fl win 4000 100 16000000 0 f al .nil 0 fun s ob nb => .ret (s, ⟨ob, nb⟩)
end Gv
set_option linter.unusedSimpArgs false
set_option linter.unusedVariables false
open Rx Go
namespace Rd
def At (s : ByteArray) (a : Nat) (t : List UInt8) : Prop := a <= s.size /\ s.data.toList.drop a = t
theorem Xy (s : ByteArray) : s.data.toList.length = s.size := rfl
theorem at_len {s : ByteArray} {a : Nat} {t : List UInt8} (h : At s a t) : a + t.length = s.size := by
 have h1 : t.length = s.data.toList.length - a := by rw [← h.2, List.length_drop]
 have := Xy s
 have := h.1
 omega
theorem AU {s : ByteArray} {a : Nat} {u t : List UInt8} (h : At s a (u ++ t)) : At s (a + u.length) t := by
 have hl := at_len h
 rw [List.length_append] at hl
 refine ⟨by omega, ?_⟩
 rw [← List.drop_drop, h.2, List.drop_left]
theorem dz {s : ByteArray} {a : Nat} {b : UInt8} {t : List UInt8} (h : At s a (b :: t)) : At s (a + 1) t /\ au s a = b.toNat /\ (a : Int) < s.size := by
 have hl := at_len h
 rw [List.length_cons] at hl
 have h1 : At s (a + 1) t := AU (u := [b]) h
 refine ⟨h1, ?_, by omega⟩
 have h2 : s.data.toList[a]? = some b := by
  have : (s.data.toList.drop a)[0]? = some b := by rw [h.2]; rfl
  rw [List.getElem?_drop] at this
  simpa using this
 unfold au
 rw [List.getD_eq_getElem?_getD, Int.toNat_natCast, h2]
 rfl
theorem at_nil {s : ByteArray} {a : Nat} (h : At s a []) : (a : Int) = s.size := by
 have := at_len h
 simp only [List.length_nil] at this; omega
theorem VB (s : ByteArray) : At s 0 s.data.toList := ⟨Nat.zero_le _, rfl⟩
theorem WS : ∀ n, n < 256 -> okc ((n : Nat) : Int) = Gv.okn n := by decide +kernel
theorem Em {s : ByteArray} : ∀ (t : List UInt8) (a : Nat), At s a t -> uH s a = t.all fun b => Gv.okn b.toNat
 | [], a, h => by
   have := at_nil h
   rw [uH, if_neg (by omega)]; rfl
 | b :: t, a, h => by
   obtain ⟨h1, h2, h3⟩ := dz h
   rw [uH, if_pos h3, h2, WS _ b.toNat_lt, show (a : Int) + 1 = ((a + 1 : Nat) : Int) by omega, Em t (a + 1) h1]
   rfl
theorem U6 (s : ByteArray) : Gv.Pd s = pI s := by
 unfold Gv.Pd pI
 congr 1
 exact (Em _ 0 (VB s)).symm
theorem NW (a : Nat) : ((a + 1 : Nat) : Int) = (a : Int) + 1 := by omega
theorem Sg {s : ByteArray} {a : Nat} {b : UInt8} {t : List UInt8} (h : At s a (b :: t)) (hb : b.toNat = 32 ∨ b.toNat = 10 ∨ b.toNat = 9) : blk s a = blk s ((a + 1 : Nat) : Int) := by
 obtain ⟨_, h1, h2⟩ := dz h
 rw [blk.eq_1 s a, if_pos h2, if_pos (by omega), NW]
theorem kP {s : ByteArray} {a : Nat} {b : UInt8} {t : List UInt8} (h : At s a (b :: t)) (hb : ¬ (b.toNat = 32 ∨ b.toNat = 10 ∨ b.toNat = 9 ∨ b.toNat = 59)) : blk s a = a := by
 obtain ⟨_, h1, h2⟩ := dz h
 rw [blk, if_pos h2, if_neg (by omega), if_neg (by omega)]
theorem NT {s : ByteArray} {a : Nat} (h : At s a []) : blk s a = a := by
 have := at_nil h
 rw [blk, if_neg (by omega)]
def qR (b : UInt8) : Bool := !(b.toNat == 32 || b.toNat == 10 || b.toNat == 9 || b.toNat == 40 || b.toNat == 41 || b.toNat == 59 || b.toNat == 39)
theorem VW : ∀ n, n < 256 -> (decide (ixB delims ((n : Nat) : Int) < 0)) = !(n == 32 || n == 10 || n == 9 || n == 40 || n == 41 || n == 59 || n == 39) := by decide +kernel
theorem SH (b : UInt8) : (ixB delims (b.toNat : Int) < 0) ↔ qR b = true := by
 have h := VW b.toNat b.toNat_lt
 unfold qR
 rw [← h, decide_eq_true_eq]
def stops : List UInt8 -> Bool
 | [] => true
 | b :: _ => !qR b
theorem yG {s : ByteArray} {post : List UInt8} (hp : stops post = true) : ∀ (w : List UInt8) (a : Nat), At s a (w ++ post) -> (w.all qR) = true -> bn s a = ((a + w.length : Nat) : Int)
 | [], a, h, _ => by
   have e : ((a + ([] : List UInt8).length : Nat) : Int) = a := by simp
   rw [e]
   match post, hp, h with
   | [], _, h => have := at_nil h; rw [bn, if_neg (by omega)]
   | b :: t, hp, h =>
     obtain ⟨_, h1, h2⟩ := dz h
     have hn : ¬ ixB delims (au s a) < 0 := by
       rw [h1, SH]
       simpa [stops] using hp
     rw [bn, if_neg (fun h => hn h.2)]
 | b :: w, a, h, hw => by
   simp only [List.all_cons, Bool.and_eq_true] at hw
   obtain ⟨h0, h1, h2⟩ := dz h
   have hn : ixB delims (au s a) < 0 := by rw [h1, SH]; exact hw.1
   have ih := yG hp w (a + 1) h0 hw.2
   rw [bn, if_pos ⟨h2, hn⟩, ← NW, ih]
   simp only [List.length_cons]; omega
theorem Y9 {s : ByteArray} {post w : List UInt8} {a : Nat} (hp : stops post = true) (h : At s a (w ++ post)) (hw : (w.all qR) = true) : aG s a a = ⟨w.toArray⟩ := by
 have e := yG hp w a h hw
 unfold aG
 rw [e]
 simp only [Int.toNat_natCast]
 have hx : (s.extract a (a + w.length)).data = w.toArray := by
  apply Array.ext'
  simp only [ByteArray.data_extract, Array.toList_extract]
  rw [List.extract_eq_take_drop, h.2]
  simp
 exact ByteArray.ext hx
def okW (w : List UInt8) : Bool := !w.isEmpty && w.all qR && atE ⟨w.toArray⟩ == 0
inductive Sx where
 | wd (w : List UInt8)
 | li (l : List Sx)
 | qu (l : List Sx)
mutual
def sxT : Sx -> List UInt8
 | .wd w => w
 | .li l => 40 :: (mQ l ++ [41])
 | .qu l => 39 :: 40 :: (mQ l ++ [41])
def kF : List Sx -> List UInt8
 | [] => []
 | x :: l => 32 :: (sxT x ++ kF l)
def mQ : List Sx -> List UInt8
 | [] => []
 | x :: l => sxT x ++ kF l
end
mutual
def sxD : Sx -> Dm
 | .wd w => atD ⟨w.toArray⟩
 | .li l => .mk 4 0 noS (nH l)
 | .qu l => .mk 4 0 noS [.mk 3 0 oH [], .mk 4 0 noS (nH l)]
def nH : List Sx -> List Dm
 | [] => []
 | x :: l => sxD x :: nH l
end
mutual
def sxC : Sx -> Nat
 | .wd _ => 1
 | .li l => 1 + kC l
 | .qu l => 2 + kC l
def kC : List Sx -> Nat
 | [] => 0
 | x :: l => sxC x + kC l
end
mutual
def sxH : Sx -> Nat
 | .wd _ => 1
 | .li l => 1 + zQ l
 | .qu l => 2 + zQ l
def zQ : List Sx -> Nat
 | [] => 0
 | x :: l => max (sxH x) (zQ l)
end
mutual
def okX : Sx -> Bool
 | .wd w => okW w
 | .li l => uS l
 | .qu l => uS l
def uS : List Sx -> Bool
 | [] => true
 | x :: l => okX x && uS l
end
theorem Cv {w : List UInt8} (h : okW w = true) : ∃ b t, w = b :: t /\ qR b = true := by
 simp only [okW, Bool.and_eq_true] at h
 match w, h with
 | [], h => simp at h
 | b :: t, h =>
   simp only [List.all_cons, Bool.and_eq_true] at h
   exact ⟨b, t, rfl, h.1.2.1⟩
theorem E5 {b : UInt8} (h : qR b = true) : ¬ (b.toNat = 32 ∨ b.toNat = 10 ∨ b.toNat = 9 ∨ b.toNat = 59) /\ b.toNat ≠ 40 /\ b.toNat ≠ 41 /\ b.toNat ≠ 39 := by
 simp only [qR, Bool.not_eq_true', Bool.or_eq_false_iff, beq_eq_false_iff_ne] at h
 omega
theorem rH {x : Sx} (h : okX x = true) : ∃ b t, sxT x = b :: t /\ ¬ (b.toNat = 32 ∨ b.toNat = 10 ∨ b.toNat = 9 ∨ b.toNat = 59) /\ b.toNat ≠ 41 := by
 cases x with
 | wd w =>
   simp only [okX] at h
   obtain ⟨b, t, e, hb⟩ := Cv h
   have := E5 hb
   exact ⟨b, t, by simp only [sxT, e], this.1, this.2.2.1⟩
 | li l => exact ⟨40, mQ l ++ [41], by simp only [sxT], by decide, by decide⟩
 | qu l => exact ⟨39, 40 :: (mQ l ++ [41]), by simp only [sxT], by decide, by decide⟩
theorem K4 (t : List UInt8) : stops (41 :: t) = true := rfl
theorem Dg (l : List Sx) (t : List UInt8) : stops (kF l ++ 41 :: t) = true := by
 cases l with
 | nil => simp only [kF, List.nil_append]; exact K4 t
 | cons x l => simp only [kF, List.cons_append]; rfl
mutual
def sxF : Sx -> Nat
 | .wd _ => 1
 | .li l => rF l + 1
 | .qu l => rF l + 1 + 1
def rF : List Sx -> Nat
 | [] => 1
 | x :: l => max (sxF x) (rF l) + 1
end
def zI (f : Nat) (s : ByteArray) (lv a c : Int) (r : PR) : Prop := jc s f lv a c = some r
def Gp (f : Nat) (s : ByteArray) (lv a c : Int) (acc : List Dm) (r : PR) : Prop := kY s f lv a c acc = some r
theorem ER {f g : Nat} {s : ByteArray} {lv a c : Int} {acc : List Dm} {d : Dm} {a' c' : Int} {r : PR} (hb : ¬ (blk s a < s.size /\ au s (blk s a) = 41)) (hf : zI f s (lv + 1) (blk s a) c ⟨d, a', c', 0⟩) (hg : Gp g s lv a' c' (acc ++ [d]) r) : Gp (max f g + 1) s lv a c acc r := by
 unfold Gp zI at *
 rw [kY, if_neg hb, kH (Nat.le_max_left f g) hf]
 simp only
 rw [if_neg (by simp), Qw (Nat.le_max_right f g) hg]
theorem BP {s : ByteArray} {lv c : Int} {a : Nat} {acc : List Dm} {t : List UInt8} (h : At s a (41 :: t)) : Gp 1 s lv a c acc ⟨.mk 4 0 noS acc, a + 1, c, 0⟩ := by
 obtain ⟨_, h1, h2⟩ := dz h
 have hb := kP h (by decide)
 unfold Gp
 rw [kY, hb, if_pos ⟨h2, by rw [h1]; rfl⟩]
theorem Eu {f : Nat} {s : ByteArray} {lv c : Int} {a : Nat} {t : List UInt8} {r : PR} (h : At s a (40 :: t)) (hc : c + 1 <= 400) (hl : lv <= 40) (hf : Gp f s lv ((a + 1 : Nat) : Int) (c + 1) [] r) : zI (f + 1) s lv a c r := by
 obtain ⟨_, h2, h3⟩ := dz h
 have h2 : au s a = 40 := by rw [h2]; rfl
 have hb := kP h (by decide)
 unfold Gp zI at *
 rw [jc, hb, if_neg (by omega), if_neg (by omega), if_neg (by omega), if_neg (by omega), if_neg (by omega), if_pos h2, ← NW, hf]
theorem LU {f : Nat} {s : ByteArray} {lv c : Int} {a : Nat} {t : List UInt8} {r : PR} (h : At s a (39 :: t)) (hc : c + 1 <= 400) (hl : lv <= 40) (hf : zI f s (lv + 1) ((a + 1 : Nat) : Int) (c + 1) r) :
  zI (f + 1) s lv a c ⟨.mk 4 0 noS [.mk 3 0 oH [], r.d], r.a, r.c, r.e⟩ := by
 obtain ⟨_, h2, h3⟩ := dz h
 have h2 : au s a = 39 := by rw [h2]; rfl
 have hb := kP h (by decide)
 unfold zI at *
 rw [jc, hb, if_neg (by omega), if_neg (by omega), if_neg (by omega), if_neg (by omega), if_pos h2, ← NW, hf]
 rfl
theorem Qe {s : ByteArray} {lv c : Int} {a : Nat} {b : UInt8} {w post : List UInt8} (h : At s a ((b :: w) ++ post)) (hp : stops post = true) (hw : ((b :: w).all qR) = true) (hc : c + 1 <= 400) (hl : lv <= 40) :
  zI 1 s lv a c ⟨atD ⟨(b :: w).toArray⟩, if atE ⟨(b :: w).toArray⟩ = 0 then ((a + (b :: w).length : Nat) : Int) else a, c + 1, atE ⟨(b :: w).toArray⟩⟩ := by
 have h' : At s a (b :: (w ++ post)) := h
 obtain ⟨_, h2, h3⟩ := dz h'
 have hb1 : qR b = true := by simp only [List.all_cons, Bool.and_eq_true] at hw; exact hw.1
 have hn := E5 hb1
 have hb := kP h' hn.1
 have e1 := Y9 hp h hw
 have e2 := yG hp _ _ h hw
 unfold zI
 rw [jc, hb, if_neg (by omega), if_neg (by omega), if_neg (by omega), if_neg (by omega), if_neg (by omega), if_neg (by omega), e1, e2]
mutual
theorem rV : ∀ (x : Sx), okX x = true -> ∀ (s : ByteArray) (lv c : Int) (a : Nat) (post : List UInt8), At s a (sxT x ++ post) -> stops post = true -> lv + sxH x <= 41 -> c + sxC x <= 400 ->
  zI (sxF x) s lv a c ⟨sxD x, ((a + (sxT x).length : Nat) : Int), c + sxC x, 0⟩
 | .wd w, hx, s, lv, c, a, post, h, hp, hl, hc => by
   simp only [okX] at hx
   obtain ⟨b, t, rfl, _⟩ := Cv hx
   simp only [okW, Bool.and_eq_true, beq_iff_eq] at hx
   simp only [sxT, sxH, sxC, sxD, sxF] at h hl hc ⊢
   have := Qe (lv := lv) (c := c) h hp hx.1.2 (by omega) (by omega)
   rw [if_pos hx.2, hx.2] at this
   exact this
 | .li l, hx, s, lv, c, a, post, h, hp, hl, hc => by
   simp only [okX] at hx
   simp only [sxT, sxH, sxC, sxD, sxF] at h hl hc ⊢
   have h' : At s a (40 :: (mQ l ++ 41 :: post)) := by simpa using h
   have := EP l hx s lv (c + 1) (a + 1) [] post (dz h').1 (by omega) (by omega)
   refine Eu h' (by omega) (by omega) ?_
   have e1 : ((a + (40 :: (mQ l ++ [41])).length : Nat) : Int) = ((a + 1 + (mQ l).length + 1 : Nat) : Int) := by simp; omega
   have e2 : c + ((1 + kC l : Nat) : Int) = c + 1 + kC l := by omega
   rw [e1, e2]
   simpa using this
 | .qu l, hx, s, lv, c, a, post, h, hp, hl, hc => by
   simp only [okX] at hx
   simp only [sxT, sxH, sxC, sxD, sxF] at h hl hc ⊢
   have h' : At s a (39 :: 40 :: (mQ l ++ 41 :: post)) := by simpa using h
   have h'' := (dz h').1
   have := EP l hx s (lv + 1) (c + 1 + 1) (a + 1 + 1) [] post (dz h'').1 (by omega) (by omega)
   have := Eu (lv := lv + 1) (c := c + 1) h'' (by omega) (by omega) this
   have := LU (lv := lv) (c := c) h' (by omega) (by omega) this
   have e1 : ((a + (39 :: 40 :: (mQ l ++ [41])).length : Nat) : Int) = ((a + 1 + 1 + (mQ l).length + 1 : Nat) : Int) := by simp; omega
   have e2 : c + ((2 + kC l : Nat) : Int) = c + 1 + 1 + kC l := by omega
   rw [e1, e2]
   simpa using this
theorem EP : ∀ (l : List Sx), uS l = true -> ∀ (s : ByteArray) (lv c : Int) (a : Nat) (acc : List Dm) (post : List UInt8), At s a (mQ l ++ 41 :: post) -> lv + 1 + zQ l <= 41 -> c + kC l <= 400 ->
  Gp (rF l) s lv a c acc ⟨.mk 4 0 noS (acc ++ nH l), ((a + (mQ l).length + 1 : Nat) : Int), c + kC l, 0⟩
 | [], hx, s, lv, c, a, acc, post, h, hl, hc => by
   simp only [mQ, nH, kC, rF, List.nil_append] at h ⊢
   have := BP (lv := lv) (c := c) (acc := acc) h
   simpa using this
 | x :: l, hx, s, lv, c, a, acc, post, h, hl, hc => by
   simp only [uS, Bool.and_eq_true] at hx
   simp only [mQ, zQ, nH, kC, rF] at h hl hc ⊢
   rw [List.append_assoc] at h
   have h1 := rV x hx.1 s (lv + 1) c a _ h (Dg l post) (by omega) (by omega)
   obtain ⟨b, t, e, hb, hb'⟩ := rH hx.1
   have h0 : At s a (b :: (t ++ (kF l ++ 41 :: post))) := by rw [e] at h; exact h
   have eb := kP h0 hb
   have hy := (dz h0).2.1
   have h2 := Kg l hx.2 s lv (c + sxC x) (a + (sxT x).length) (acc ++ [sxD x]) post (AU h) (by omega) (by omega)
   have h3 := ER (acc := acc) (lv := lv) (a := a) (by rw [eb]; omega) (by rw [eb]; exact h1) h2
   have e1 : ((a + (sxT x ++ kF l).length + 1 : Nat) : Int) = ((a + (sxT x).length + (kF l).length + 1 : Nat) : Int) := by simp; omega
   have e2 : c + ((sxC x + kC l : Nat) : Int) = c + sxC x + kC l := by omega
   rw [e1, e2]
   simpa using h3
theorem Kg : ∀ (l : List Sx), uS l = true -> ∀ (s : ByteArray) (lv c : Int) (a : Nat) (acc : List Dm) (post : List UInt8), At s a (kF l ++ 41 :: post) -> lv + 1 + zQ l <= 41 -> c + kC l <= 400 ->
  Gp (rF l) s lv a c acc ⟨.mk 4 0 noS (acc ++ nH l), ((a + (kF l).length + 1 : Nat) : Int), c + kC l, 0⟩
 | [], hx, s, lv, c, a, acc, post, h, hl, hc => by
   simp only [kF, nH, kC, rF, List.nil_append] at h ⊢
   have := BP (lv := lv) (c := c) (acc := acc) h
   simpa using this
 | x :: l, hx, s, lv, c, a, acc, post, h, hl, hc => by
   simp only [uS, Bool.and_eq_true] at hx
   simp only [kF, zQ, nH, kC, rF] at h hl hc ⊢
   have h : At s a (32 :: (sxT x ++ (kF l ++ 41 :: post))) := by simpa using h
   have hg := Sg h (.inl rfl)
   have h' := (dz h).1
   have h1 := rV x hx.1 s (lv + 1) c (a + 1) _ h' (Dg l post) (by omega) (by omega)
   obtain ⟨b, t, e, hb, hb'⟩ := rH hx.1
   have h0 : At s (a + 1) (b :: (t ++ (kF l ++ 41 :: post))) := by rw [e] at h'; exact h'
   have eb := kP h0 hb
   have hy := (dz h0).2.1
   have h2 := Kg l hx.2 s lv (c + sxC x) (a + 1 + (sxT x).length) (acc ++ [sxD x]) post (AU h') (by omega) (by omega)
   have h3 := ER (acc := acc) (lv := lv) (a := a) (by rw [hg, eb]; omega) (by rw [hg, eb]; exact h1) h2
   have e1 : ((a + (32 :: (sxT x ++ kF l)).length + 1 : Nat) : Int) = ((a + 1 + (sxT x).length + (kF l).length + 1 : Nat) : Int) := by simp; omega
   have e2 : c + ((sxC x + kC l : Nat) : Int) = c + sxC x + kC l := by omega
   rw [e1, e2]
   simpa using h3
end
theorem Fv (s : ByteArray) : ∀ (f : Nat) (a c : Int) (acc : List Dm) (r : RR), mM s f a c acc = some r -> mM s (f + 1) a c acc = some r
 | 0, _, _, _, _, h => by simp [mM] at h
 | f + 1, a, c, acc, r, h => by
   rw [mM] at h ⊢
   split at h
   · rename_i hlt
     rw [if_pos hlt]
     split at h
     · cases h
     · rename_i q hq
       rw [kH (Nat.le_succ f) hq]
       simp only
       split at h
       · rename_i g; rw [if_pos g]; exact h
       · rename_i g; rw [if_neg g]; exact Fv s f _ _ _ _ h
   · rename_i hlt; rw [if_neg hlt]; exact h
theorem Fu {s : ByteArray} {f g : Nat} (h : f <= g) {a c : Int} {acc : List Dm} {r : RR} (hr : mM s f a c acc = some r) : mM s g a c acc = some r := by
 induction h with
 | refl => exact hr
 | step _ ih => exact Fv s _ _ _ _ _ ih
def Lr (f : Nat) (s : ByteArray) (a c : Int) (acc : List Dm) (r : RR) : Prop := mM s f a c acc = some r
theorem KL {s : ByteArray} {a c : Int} {acc : List Dm} (h : ¬ a < s.size) : Lr 1 s a c acc ⟨acc, 0, 0⟩ := by unfold Lr; rw [mM, if_neg h]
theorem KM {f g : Nat} {s : ByteArray} {a c a' c' : Int} {acc : List Dm} {d : Dm} {r : RR} (h : a < s.size) (hf : zI f s 1 a c ⟨d, a', c', 0⟩) (hg : Lr g s (blk s a') c' (acc ++ [d]) r) : Lr (max f g + 1) s a c acc r := by
 unfold Lr zI at *
 rw [mM, if_pos h, kH (Nat.le_max_left f g) hf]
 simp only
 rw [if_neg (by simp), Fu (Nat.le_max_right f g) hg]
theorem Eo {s : ByteArray} {x : Sx} {post : List UInt8} (hx : okX x = true) {a : Nat} (h : At s a (sxT x ++ post)) : blk s a = a := by
 obtain ⟨b, t, e, hb, _⟩ := rH hx
 have h : At s a (b :: (t ++ post)) := by rw [e] at h; exact h
 exact kP h hb
theorem Df (l : List Sx) : stops (kF l) = true := by
 cases l with
 | nil => rfl
 | cons x l => simp only [kF]; rfl
theorem Fw : ∀ (l : List Sx), uS l = true -> ∀ (s : ByteArray) (c : Int) (a : Nat) (acc : List Dm), At s a (kF l) -> zQ l <= 40 -> c + kC l <= 400 -> Lr (rF l) s (blk s a) c acc ⟨acc ++ nH l, 0, 0⟩
 | [], _, s, c, a, acc, h, _, _ => by
   simp only [kF, nH, rF, List.append_nil] at h ⊢
   have e := NT h
   rw [e]
   exact KL (by have := at_nil h; omega)
 | x :: l, hx, s, c, a, acc, h, hl, hc => by
   simp only [uS, Bool.and_eq_true] at hx
   simp only [kF, zQ, nH, kC, rF] at h hl hc ⊢
   have hg := Sg h (.inl rfl)
   have h' := (dz h).1
   have e := Eo hx.1 h'
   have h1 := rV x hx.1 s 1 c (a + 1) _ h' (Df l) (by omega) (by omega)
   have hlt : ((a + 1 : Nat) : Int) < s.size := by
     obtain ⟨b, t, e, _, _⟩ := rH hx.1
     rw [e] at h'
     exact (dz h').2.2
   have h2 := Fw l hx.2 s (c + sxC x) (a + 1 + (sxT x).length) (acc ++ [sxD x]) (AU h') (by omega) (by omega)
   rw [hg, e]
   have := KM hlt h1 h2
   simpa using this
theorem MW {s : ByteArray} (l : List Sx) (hx : uS l = true) (hs : s.data.toList = mQ l) (hh : zQ l <= 40) (hc : kC l <= 400) (hf : rF l <= 400) : qX 400 s = some ⟨nH l, 0, 0⟩ := by
 refine Fu hf ?_
 show Lr (rF l) s (blk s 0) 0 [] ⟨nH l, 0, 0⟩
 have h : At s 0 (mQ l) := ⟨Nat.zero_le _, hs⟩
 match l, hx, h, hh, hc with
 | [], _, h, _, _ =>
   simp only [mQ, nH, rF] at h ⊢
   have e := NT h
   rw [show (0 : Int) = ((0 : Nat) : Int) from rfl, e]
   exact KL (by have := at_nil h; omega)
 | x :: l, hx, h, hh, hc =>
   simp only [uS, Bool.and_eq_true] at hx
   simp only [mQ, zQ, nH, kC, rF] at h hh hc ⊢
   have e := Eo hx.1 h
   have h1 := rV x hx.1 s 1 0 0 _ h (Df l) (by omega) (by omega)
   have hlt : ((0 : Nat) : Int) < s.size := by
     obtain ⟨b, t, e, _, _⟩ := rH hx.1
     rw [e] at h
     exact (dz h).2.2
   have h2 := Fw l hx.2 s (0 + sxC x) (0 + (sxT x).length) ([] ++ [sxD x]) (AU h) (by omega) (by omega)
   rw [show (0 : Int) = ((0 : Nat) : Int) from rfl, e]
   have := KM hlt h1 h2
   simpa using this
theorem abM (a b : ByteArray) : (a ++ b).data.toList = a.data.toList ++ b.data.toList := by
 rw [ByteArray.data_append, Array.toList_append]
def acI (n : Int) : Bool := okW (Lib.itoa n) && (dU ⟨(Lib.itoa n).toArray⟩ == n) && !isT ⟨(Lib.itoa n).toArray⟩ && !isF ⟨(Lib.itoa n).toArray⟩ && !pI ⟨(Lib.itoa n).toArray⟩ && isN ⟨(Lib.itoa n).toArray⟩ && decide ((Lib.itoa n).length <= 3)
theorem Uq : ∀ n, n < 1000 -> acI ((n : Nat) : Int) = true := by decide +kernel
theorem Cq {n : Int} (h0 : 0 <= n) (h1 : n < 1000) : okW (aL n).data.toList = true /\ atD (aL n) = .mk 1 n noS [] /\ (aL n).size <= 3 := by
 have h := Uq n.toNat (by omega)
 rw [Int.toNat_of_nonneg h0] at h
 simp only [acI, Bool.and_eq_true, Bool.not_eq_true', beq_iff_eq, decide_eq_true_eq] at h
 obtain ⟨⟨⟨⟨⟨⟨a1, a2⟩, a3⟩, a4⟩, a5⟩, a6⟩, a7⟩ := h
 refine ⟨a1, ?_, a7⟩
 have e : aL n = ⟨(Lib.itoa n).toArray⟩ := rfl
 unfold atD
 rw [e, a2, a3, a4, a5, a6]
 simp only [Bool.false_eq_true, if_false, if_true]
 rw [if_neg (by omega)]
end Rd
