/- What the library's functions, the reader and the small ones tell, for the kernel's evaluator. -/
import Derived.Test.YtcmnmceodhambaaGreatDoorRdC
import Derived.Test.YtcmnmceodhambaaGreatDoorRxX6
set_option linter.unusedSimpArgs false
set_option linter.unusedVariables false
open Rx Go
namespace Gv
open Rd
abbrev tU8 : TypeId := 5
def inB (a b : Int) : Bool := decide (-9223372036854775808 ≤ a) && decide (b ≤ 9223372036854775807)
noncomputable def itoaR (al : List SV) : T Res := match al with
 | [.dt (.cell (.int .i64 n))] => bif inB n n then .ret ⟨.sy (itoaB n), .none⟩ else .fail
 | [.ri .i64 a b n] => bif inB a b then .ret ⟨.sy (itoaB n), .none⟩ else .fail
 | _ => .fail
def pickedR (al : List SV) : T Res := match al with
 | [.ri .i64 a b n, .dt (.cell (.int .i64 m))] => bif inB a b && (decide (0 < m) && decide (m ≤ 1000000)) then .ret ⟨.ri .i64 0 (m - 1) (pickedS n m), .none⟩ else .fail
 | _ => .fail
def okn (n : Nat) : Bool := (Nat.ble 97 n && Nat.ble n 122) || ((Nat.ble 48 n && Nat.ble n 57) || [43, 45, 42, 47, 60, 62, 61, 63, 33, 95].any fun m => Nat.beq n m)
def symBk (s : ByteArray) : Bool :=
 decide (1 ≤ s.size ∧ s.size ≤ 16 ∧ ¬ (48 ≤ byteAt s 0 ∧ byteAt s 0 ≤ 57) ∧ (s.size = 1 ∨ byteAt s 0 ≠ 45 ∨ byteAt s 1 < 48 ∨ 57 < byteAt s 1)) && s.data.toList.all fun b => okn b.toNat
def symbolR (al : List SV) : T Res := match al with
 | [x] => match strS x with
   | some s => .ret ⟨.kb (symBk s), .none⟩
   | none => .fail
 | _ => .fail
def isAd (i : Nat) : SV → Bool
 | .ptr j 5 => Nat.beq i j
 | .dt (.cell (.pointer none)) => true
 | _ => false
def row0 : Nat → Nat → Dt := fun _ _ => undefCell
def putB (g : Nat → Option Ob) (new : Nat) (p : SV) (ok : Nat → Prop) (N : Nat → Nat) (fn : Nat → (Nat → Nat → Dt) → Nat → Nat → Dt) : T Res := match p with
 | .ptr i 5 => match g i with
   | some (.cells 254 [x0, x1, x2, x3, x4, A, B, x7]) => bif isAd i A && Nat.blt i new then (match B with
     | .nm j => match g j with
       | some (.row 5 1 n f) => bif !Nat.beq i j && Nat.blt j new then .need (ok n) (.ret ⟨.junk, ⟨[(i, some (.cells 254 [x0, x1, x2, x3, x4, .ptr i 5, .nm new, x7])), (j, none), (new, some (.row 5 1 (N n) (fn n f)))], [new]⟩⟩) else .fail
       | _ => .fail
     | .dt (.cell (.slice none 0 0)) => .need (ok 0) (.ret ⟨.junk, ⟨[(i, some (.cells 254 [x0, x1, x2, x3, x4, .ptr i 5, .nm (new + 1), x7])), (new, none), (new + 1, some (.row 5 1 (N 0) (fn 0 row0)))], [new, new + 1]⟩⟩)
     | _ => .fail) else .fail
   | _ => .fail
 | _ => .fail
def bytD : Dt → UInt8
 | .cell (.int _ n) => n.toNat.toUInt8
 | _ => 0
def rowL (n : Nat) (f : Nat → Nat → Dt) : List UInt8 := (List.range n).map fun k => bytD (f k 0)
def bytesP (n : Nat) (f : Nat → Nat → Dt) : Prop := 0 < n ∧ n ≤ 100000 ∧ ∀ k, k < n → f k 0 = .cell (.int .u8 ((bytD (f k 0)).toNat))
def getB (g : Nat → Option Ob) (p : SV) : T Res := match p with
 | .ptr i 5 => match g i with
   | some (.cells 254 [_, _, _, _, _, _, .nm j, _]) => match g j with
     | some (.row 5 1 n f) => .need (bytesP n f) (.ret ⟨.sy ⟨(rowL n f).toArray⟩, ⟨[(j, none)], []⟩⟩)
     | _ => .fail
   | _ => .fail
 | _ => .fail
def wsR (al : List SV) (g : Nat → Option Ob) (new : Nat) : T Res := match al with
 | [p, x] => match strS x with
   | some s => putB g new p (fun n => n + s.size ≤ 100000) (fun n => n + s.size) fun n f => Rx.catF n f (bytF s)
   | none => .fail
 | _ => .fail
def wbR (al : List SV) (g : Nat → Option Ob) (new : Nat) : T Res := match al with
 | [p, .dt (.cell (.int .u8 c))] => putB g new p (fun n => n ≤ 100000) (fun n => n + 1) fun n f => Rx.catF n f (litF 1 [.cell (.int .u8 c)])
 | _ => .fail
def bsR (al : List SV) (g : Nat → Option Ob) : T Res := match al with
 | [p] => getB g p
 | _ => .fail
inductive Dx where
 | mk (k : Int) (sym : Option (Int × Int)) (n : Int) (s : ByteArray) (l : List Dx)
mutual
def Dx.dm : Dx → Dm
 | .mk k _ n s l => .mk k n s (dmsX l)
def dmsX : List Dx → List Dm
 | [] => []
 | d :: l => d.dm :: dmsX l
end
def nD (sym : Option (Int × Int)) (n : Int) : Dt := match sym with
 | some (a, b) => .ri .i64 a b n
 | none => .cell (.int .i64 n)
mutual
def dxT : Dx → Nat → Dt
 | .mk k sym n s l, j => match j with
   | 0 => .cell (.int .i64 k)
   | 1 => nD sym n
   | 2 => .cell (.string s)
   | _ => .arr 4 l.length (dxL l)
def dxL : List Dx → Nat → Nat → Dt
 | [], _, _ => undefCell
 | d :: l, i, j => match i with
   | 0 => dxT d j
   | i + 1 => dxL l i j
end
def tblAt : List (Nat × List Dx) → Nat → Option (List Dx)
 | [], _ => none
 | x :: l, n => bif Nat.beq x.1 n then some x.2 else tblAt l n
mutual
def Dx.fits : Dx → Prop
 | .mk _ sym n _ l => (∀ a b, sym = some (a, b) → a ≤ n ∧ n ≤ b) ∧ fitsX l
def fitsX : List Dx → Prop
 | [] => True
 | d :: l => d.fits ∧ fitsX l
end
def readR (tbl : List (Nat × List Dx)) (al : List SV) (new : Nat) : T Res := match al with
 | [x] => match strS x with
   | some s => match tblAt tbl new with
     | some r => .need (s.size ≤ 3000 ∧ readS 400 s = some ⟨dmsX r, 0, 0⟩ ∧ fitsX r) (.ret ⟨.tup [.dt (.arr 4 r.length (dxL r)), .ki .i64 0, .ki .i64 0], .none⟩)
     | none => .fail
   | none => .fail
 | _ => .fail
def mkS (f : List SV → (Nat → Option Ob) → Nat → T Res) : Summ := ⟨false, fun _ _ _ => [], fun al g new _ => f al g new⟩
noncomputable def F (tbl : List (Nat × List Dx)) : FuncId → Option Summ
 | 15 => some (mkS fun al _ _ => itoaR al)
 | 16 => some (mkS fun al _ _ => pickedR al)
 | 27 => some (mkS fun al _ new => readR tbl al new)
 | 150 => some (mkS fun al _ _ => symbolR al)
 | 35 => some (mkS fun al g new => wsR al g new)
 | 37 => some (mkS fun al g _ => bsR al g)
 | 233 => some (mkS fun al g new => wbR al g new)
 | _ => none
end Gv
open Rx Go
namespace Gv
def flT : List Nat := [0, 0, 0, 499, 755, 4398046514675, 1533, 499, 61, 61, 125, 2951479051793528489917, 2147541501, 4311773693, 125, 5, 83, 134218099, 19, 5, 1011, 550024775543, 287, 10404955393597153145976807980556275, 138351151749653378483, 5, 72092830958489075, 2151679229, 340438784863802128483979929532833333243, 87117612579302472245506388050680964186111, 2365799431568289300655, 503332271, 1011, 19, 2097283, 51, 5, 5, 17188391667, 1126999956395895, 332469263174894200391729021810883583, 33002528829407, 18446745173225377797, 5575228834928520941377797709908061871702515, 5, 18157215038439679, 7, 9463758423473277435790, 21, 19, 2147976127, 1208925819614629243395023, 87750315369776932250847882348651167023103, 141671264965950795945391, 12554203470796218397703502735314585890091069003048985000923, 649056914357777168681793982029691, 158495049540526662882246852543, 75562475420728877916111, 31, 73786976329199001567, 2658460745262000453307381188212558335, 19, 15, 20769187434139864493256809002303871, 19, 15, 202289411479978373988497910215637938362943936408804491263, 19, 15, 68719478911, 2724917391364358146322347105288403879967, 115, 16371, 19, 524353, 19, 21, 13, 2923003971560093291123168138537876760321514930163, 20426010943356750102455122975, 1967, 8796095383799, 1125934270793727, 5070621744279577877710705768951, 2119, 4845148088266925705003251, 5, 1090769183, 19, 15, 2554179786055560887369990570199, 2097183, 142147677, 15, 65565, 66483, 504373101, 66483, 15, 2540253602857752340990790502359, 4377871547, 541255, 604462909811721240584143, 31, 19, 15, 7, 31, 31, 1047, 21, 21, 21, 21, 16806963, 1099511636471, 36028831412389887, 132215, 19, 15, 304895327062271829692732351779820974356307, 288230377226537975, 504373101, 66483, 15, 536871247, 4835703315050263671210995, 158456929491438482501677359485, 182687704666529018274933718573648359936602015735, 18446884948641054935, 66483, 7, 66483, 191562307986433075708231270773625842275991812479389695, 19, 159, 0, 0, 5, 16661, 13, 5, 5, 9665836393425380052274427992039, 22128178210873083698507421159, 7, 311941821002213275355054167, 36046389272383487, 4295491835, 19, 281475037528093, 4157, 21, 7, 65619, 33824967, 531, 19, 66631, 21270244091048602060916999595220797199, 16071, 79247505327954711886749236495, 15, 19, 15, 15, 66483, 164804481567692979617900529862607, 15, 66483, 15, 79, 2097179, 155, 730750992890023971659443030895836030932479900659, 66483, 7, 65619, 56542776022183744906655527327236205378149232952363318351474535186628152295, 115, 11, 2147483659, 7, 19, 31, 31, 66483, 21, 21, 534619, 21, 8647, 27, 5, 11692372545892507385973932188700941862030062829391, 2175, 604467521493333015806039, 1008806350890730351, 314748133707623186461, 131103, 19, 73861163094217066365, 17247509535, 66483, 1100518301127, 19, 1099511892423, 51, 19, 344605, 2508761716333010747519, 1180727293855210177399, 303, 1991, 4503603922338759, 71, 1267921399612111308807989246927, 343, 19, 2305845208522166031, 45, 619576846050668277445704647, 8796093023175, 2417852215725195025154023, 66483, 15, 15, 7, 3848417613915, 515, 3, 24792424299012852635503, 4759296035032941069479, 19, 0, 594912002450663878599, 19, 19, 71, 71, 21, 563, 147, 5, 5, 5, 1, 154819280259579954382243831, 5070602405635356146450498059295, 262411, 17592186052659, 983399, 2147484263, 749019592093908130998168547243562859198691857383367, 77, 5, 19, 295147905181504570311, 66483, 5, 3259264009699125022261772349, 0, 3, 3, 525, 0, 0, 0, 0, 0, 0, 0, 0, 0, 0, 0, 0, 0, 0, 0, 0, 0, 0, 0, 0, 0, 0, 0, 0, 0, 0, 0, 0, 0, 0, 0, 0, 0, 0]
def fl (f : Nat) : Nat := flT.getD f 0
def win (f n _r : Nat) : Nat := match f with
 | 161 => Nat.pow 2 (n - 75)
 | 206 => Nat.pow 2 (n - 75)
 | 102 => 16384
 | 57 => 8192
 | 120 => 4096
 | 174 => 4096
 | 29 => 131072
 | 40 => 131072
 | 6 => 1048576
 | _ => 64
noncomputable def go (tbl : List (Nat × List Dx)) (f : FuncId) (al : List SV) : R := runG Rd.prog (F tbl) fl win 4000 100 16000000 0 f al .nil 0 fun s ob nb => .ret (s, ⟨ob, nb⟩)
end Gv
set_option linter.unusedSimpArgs false
set_option linter.unusedVariables false
open Rx Go
namespace Rd
def At (s : ByteArray) (a : Nat) (t : List UInt8) : Prop := a ≤ s.size ∧ s.data.toList.drop a = t
theorem sz_list (s : ByteArray) : s.data.toList.length = s.size := rfl
theorem at_len {s : ByteArray} {a : Nat} {t : List UInt8} (h : At s a t) : a + t.length = s.size := by
 have h1 : t.length = s.data.toList.length - a := by rw [← h.2, List.length_drop]
 have := sz_list s
 have := h.1
 omega
theorem at_app {s : ByteArray} {a : Nat} {u t : List UInt8} (h : At s a (u ++ t)) : At s (a + u.length) t := by
 have hl := at_len h
 rw [List.length_append] at hl
 refine ⟨by omega, ?_⟩
 rw [← List.drop_drop, h.2, List.drop_left]
theorem at_cons {s : ByteArray} {a : Nat} {b : UInt8} {t : List UInt8} (h : At s a (b :: t)) : At s (a + 1) t ∧ byteAt s a = b.toNat ∧ (a : Int) < s.size := by
 have hl := at_len h
 rw [List.length_cons] at hl
 have h1 : At s (a + 1) t := at_app (u := [b]) h
 refine ⟨h1, ?_, by omega⟩
 have h2 : s.data.toList[a]? = some b := by
  have : (s.data.toList.drop a)[0]? = some b := by rw [h.2]; rfl
  rw [List.getElem?_drop] at this
  simpa using this
 unfold byteAt
 rw [List.getD_eq_getElem?_getD, Int.toNat_natCast, h2]
 rfl
theorem at_nil {s : ByteArray} {a : Nat} (h : At s a []) : (a : Int) = s.size := by
 have := at_len h
 simp only [List.length_nil] at this; omega
theorem at_zero (s : ByteArray) : At s 0 s.data.toList := ⟨Nat.zero_le _, rfl⟩
theorem okc_okn : ∀ n, n < 256 → okc ((n : Nat) : Int) = Gv.okn n := by decide +kernel
theorem allc_list {s : ByteArray} : ∀ (t : List UInt8) (a : Nat), At s a t → allc s a = t.all fun b => Gv.okn b.toNat
 | [], a, h => by
   have := at_nil h
   rw [allc, if_neg (by omega)]; rfl
 | b :: t, a, h => by
   obtain ⟨h1, h2, h3⟩ := at_cons h
   rw [allc, if_pos h3, h2, okc_okn _ b.toNat_lt, show (a : Int) + 1 = ((a + 1 : Nat) : Int) by omega, allc_list t (a + 1) h1]
   rfl
theorem symBk_eq (s : ByteArray) : Gv.symBk s = symB s := by
 unfold Gv.symBk symB
 congr 1
 exact (allc_list _ 0 (at_zero s)).symm
theorem cast1 (a : Nat) : ((a + 1 : Nat) : Int) = (a : Int) + 1 := by omega
theorem blk_go {s : ByteArray} {a : Nat} {b : UInt8} {t : List UInt8} (h : At s a (b :: t)) (hb : b.toNat = 32 ∨ b.toNat = 10 ∨ b.toNat = 9) : blk s a = blk s ((a + 1 : Nat) : Int) := by
 obtain ⟨_, h1, h2⟩ := at_cons h
 rw [blk.eq_1 s a, if_pos h2, if_pos (by omega), cast1]
theorem blk_note {s : ByteArray} {a : Nat} {b : UInt8} {t : List UInt8} (h : At s a (b :: t)) (hb : b.toNat = 59) : blk s a = blk s (cmt s ((a + 1 : Nat) : Int)) := by
 obtain ⟨_, h1, h2⟩ := at_cons h
 rw [blk.eq_1 s a, if_pos h2, if_neg (by omega), if_pos (by omega), cast1]
theorem blk_stop {s : ByteArray} {a : Nat} {b : UInt8} {t : List UInt8} (h : At s a (b :: t)) (hb : ¬ (b.toNat = 32 ∨ b.toNat = 10 ∨ b.toNat = 9 ∨ b.toNat = 59)) : blk s a = a := by
 obtain ⟨_, h1, h2⟩ := at_cons h
 rw [blk, if_pos h2, if_neg (by omega), if_neg (by omega)]
theorem blk_end {s : ByteArray} {a : Nat} (h : At s a []) : blk s a = a := by
 have := at_nil h
 rw [blk, if_neg (by omega)]
theorem cmt_go {s : ByteArray} {a : Nat} {b : UInt8} {t : List UInt8} (h : At s a (b :: t)) (hb : b.toNat ≠ 10) : cmt s a = cmt s ((a + 1 : Nat) : Int) := by
 obtain ⟨_, h1, h2⟩ := at_cons h
 rw [cmt.eq_1 s a, if_pos ⟨h2, by omega⟩, cast1]
theorem cmt_stop {s : ByteArray} {a : Nat} {b : UInt8} {t : List UInt8} (h : At s a (b :: t)) (hb : b.toNat = 10) : cmt s a = a := by
 obtain ⟨_, h1, h2⟩ := at_cons h
 rw [cmt, if_neg (by omega)]
theorem cmt_end {s : ByteArray} {a : Nat} (h : At s a []) : cmt s a = a := by
 have := at_nil h
 rw [cmt, if_neg (by omega)]
def nodel (b : UInt8) : Bool := !(b.toNat == 32 || b.toNat == 10 || b.toNat == 9 || b.toNat == 40 || b.toNat == 41 || b.toNat == 59 || b.toNat == 39)
theorem del_iff : ∀ n, n < 256 → (decide (ixB delims ((n : Nat) : Int) < 0)) = !(n == 32 || n == 10 || n == 9 || n == 40 || n == 41 || n == 59 || n == 39) := by decide +kernel
theorem del_of (b : UInt8) : (ixB delims (b.toNat : Int) < 0) ↔ nodel b = true := by
 have h := del_iff b.toNat b.toNat_lt
 unfold nodel
 rw [← h, decide_eq_true_eq]
def stops : List UInt8 → Bool
 | [] => true
 | b :: _ => !nodel b
theorem wend_word {s : ByteArray} {post : List UInt8} (hp : stops post = true) : ∀ (w : List UInt8) (a : Nat), At s a (w ++ post) → (w.all nodel) = true → wend s a = ((a + w.length : Nat) : Int)
 | [], a, h, _ => by
   have e : ((a + ([] : List UInt8).length : Nat) : Int) = a := by simp
   rw [e]
   match post, hp, h with
   | [], _, h => have := at_nil h; rw [wend, if_neg (by omega)]
   | b :: t, hp, h =>
     obtain ⟨_, h1, h2⟩ := at_cons h
     have hn : ¬ ixB delims (byteAt s a) < 0 := by
       rw [h1, del_of]
       simpa [stops] using hp
     rw [wend, if_neg (fun h => hn h.2)]
 | b :: w, a, h, hw => by
   simp only [List.all_cons, Bool.and_eq_true] at hw
   obtain ⟨h0, h1, h2⟩ := at_cons h
   have hn : ixB delims (byteAt s a) < 0 := by rw [h1, del_of]; exact hw.1
   have ih := wend_word hp w (a + 1) h0 hw.2
   rw [wend, if_pos ⟨h2, hn⟩, ← cast1, ih]
   simp only [List.length_cons]; omega
theorem word_at {s : ByteArray} {post w : List UInt8} {a : Nat} (hp : stops post = true) (h : At s a (w ++ post)) (hw : (w.all nodel) = true) : wordAt s a a = ⟨w.toArray⟩ := by
 have e := wend_word hp w a h hw
 unfold wordAt
 rw [e]
 simp only [Int.toNat_natCast]
 have hx : (s.extract a (a + w.length)).data = w.toArray := by
  apply Array.ext'
  simp only [ByteArray.data_extract, Array.toList_extract]
  rw [List.extract_eq_take_drop, h.2]
  simp
 exact ByteArray.ext hx
def okW (w : List UInt8) : Bool := !w.isEmpty && w.all nodel && atE ⟨w.toArray⟩ == 0
inductive Sx where
 | wd (w : List UInt8)
 | li (l : List Sx)
 | qu (l : List Sx)
mutual
def sxT : Sx → List UInt8
 | .wd w => w
 | .li l => 40 :: (sxTL l ++ [41])
 | .qu l => 39 :: 40 :: (sxTL l ++ [41])
def sxTS : List Sx → List UInt8
 | [] => []
 | x :: l => 32 :: (sxT x ++ sxTS l)
def sxTL : List Sx → List UInt8
 | [] => []
 | x :: l => sxT x ++ sxTS l
end
mutual
def sxD : Sx → Dm
 | .wd w => atD ⟨w.toArray⟩
 | .li l => .mk 4 0 noS (sxDL l)
 | .qu l => .mk 4 0 noS [.mk 3 0 quoteS [], .mk 4 0 noS (sxDL l)]
def sxDL : List Sx → List Dm
 | [] => []
 | x :: l => sxD x :: sxDL l
end
mutual
def sxC : Sx → Nat
 | .wd _ => 1
 | .li l => 1 + sxCL l
 | .qu l => 2 + sxCL l
def sxCL : List Sx → Nat
 | [] => 0
 | x :: l => sxC x + sxCL l
end
mutual
def sxH : Sx → Nat
 | .wd _ => 1
 | .li l => 1 + sxHL l
 | .qu l => 2 + sxHL l
def sxHL : List Sx → Nat
 | [] => 0
 | x :: l => max (sxH x) (sxHL l)
end
mutual
def okX : Sx → Bool
 | .wd w => okW w
 | .li l => okXL l
 | .qu l => okXL l
def okXL : List Sx → Bool
 | [] => true
 | x :: l => okX x && okXL l
end
theorem okW_cons {w : List UInt8} (h : okW w = true) : ∃ b t, w = b :: t ∧ nodel b = true := by
 simp only [okW, Bool.and_eq_true] at h
 match w, h with
 | [], h => simp at h
 | b :: t, h =>
   simp only [List.all_cons, Bool.and_eq_true] at h
   exact ⟨b, t, rfl, h.1.2.1⟩
theorem nodel_not {b : UInt8} (h : nodel b = true) : ¬ (b.toNat = 32 ∨ b.toNat = 10 ∨ b.toNat = 9 ∨ b.toNat = 59) ∧ b.toNat ≠ 40 ∧ b.toNat ≠ 41 ∧ b.toNat ≠ 39 := by
 simp only [nodel, Bool.not_eq_true', Bool.or_eq_false_iff, beq_eq_false_iff_ne] at h
 omega
theorem sxT_head {x : Sx} (h : okX x = true) : ∃ b t, sxT x = b :: t ∧ ¬ (b.toNat = 32 ∨ b.toNat = 10 ∨ b.toNat = 9 ∨ b.toNat = 59) ∧ b.toNat ≠ 41 := by
 cases x with
 | wd w =>
   simp only [okX] at h
   obtain ⟨b, t, e, hb⟩ := okW_cons h
   have := nodel_not hb
   exact ⟨b, t, by simp only [sxT, e], this.1, this.2.2.1⟩
 | li l => exact ⟨40, sxTL l ++ [41], by simp only [sxT], by decide, by decide⟩
 | qu l => exact ⟨39, 40 :: (sxTL l ++ [41]), by simp only [sxT], by decide, by decide⟩
theorem sxC_pos (x : Sx) : 1 ≤ sxC x := by
 cases x <;> simp only [sxC] <;> omega
theorem stops_close (t : List UInt8) : stops (41 :: t) = true := rfl
theorem stops_tail (l : List Sx) (t : List UInt8) : stops (sxTS l ++ 41 :: t) = true := by
 cases l with
 | nil => simp only [sxTS, List.nil_append]; exact stops_close t
 | cons x l => simp only [sxTS, List.cons_append]; rfl
mutual
def sxF : Sx → Nat
 | .wd _ => 1
 | .li l => sxFL l + 1
 | .qu l => sxFL l + 1 + 1
def sxFL : List Sx → Nat
 | [] => 1
 | x :: l => max (sxF x) (sxFL l) + 1
end
def Dats (f : Nat) (s : ByteArray) (lv a c : Int) (r : PR) : Prop := datS s f lv a c = some r
def Liss (f : Nat) (s : ByteArray) (lv a c : Int) (acc : List Dm) (r : PR) : Prop := lisS s f lv a c acc = some r
theorem liss_cons {f g : Nat} {s : ByteArray} {lv a c : Int} {acc : List Dm} {d : Dm} {a' c' : Int} {r : PR} (hb : ¬ (blk s a < s.size ∧ byteAt s (blk s a) = 41)) (hf : Dats f s (lv + 1) (blk s a) c ⟨d, a', c', 0⟩) (hg : Liss g s lv a' c' (acc ++ [d]) r) : Liss (max f g + 1) s lv a c acc r := by
 unfold Liss Dats at *
 rw [lisS, if_neg hb, datS_mono (Nat.le_max_left f g) hf]
 simp only
 rw [if_neg (by simp), lisS_mono (Nat.le_max_right f g) hg]
theorem liss_close {s : ByteArray} {lv c : Int} {a : Nat} {acc : List Dm} {t : List UInt8} (h : At s a (41 :: t)) : Liss 1 s lv a c acc ⟨.mk 4 0 noS acc, a + 1, c, 0⟩ := by
 obtain ⟨_, h1, h2⟩ := at_cons h
 have hb := blk_stop h (by decide)
 unfold Liss
 rw [lisS, hb, if_pos ⟨h2, by rw [h1]; rfl⟩]
theorem dats_open {f : Nat} {s : ByteArray} {lv c : Int} {a : Nat} {t : List UInt8} {r : PR} (h : At s a (40 :: t)) (hc : c + 1 ≤ 400) (hl : lv ≤ 40) (hf : Liss f s lv ((a + 1 : Nat) : Int) (c + 1) [] r) : Dats (f + 1) s lv a c r := by
 obtain ⟨_, h2, h3⟩ := at_cons h
 have h2 : byteAt s a = 40 := by rw [h2]; rfl
 have hb := blk_stop h (by decide)
 unfold Liss Dats at *
 rw [datS, hb, if_neg (by omega), if_neg (by omega), if_neg (by omega), if_neg (by omega), if_neg (by omega), if_pos h2, ← cast1, hf]
theorem dats_quote {f : Nat} {s : ByteArray} {lv c : Int} {a : Nat} {t : List UInt8} {r : PR} (h : At s a (39 :: t)) (hc : c + 1 ≤ 400) (hl : lv ≤ 40) (hf : Dats f s (lv + 1) ((a + 1 : Nat) : Int) (c + 1) r) :
  Dats (f + 1) s lv a c ⟨.mk 4 0 noS [.mk 3 0 quoteS [], r.d], r.a, r.c, r.e⟩ := by
 obtain ⟨_, h2, h3⟩ := at_cons h
 have h2 : byteAt s a = 39 := by rw [h2]; rfl
 have hb := blk_stop h (by decide)
 unfold Dats at *
 rw [datS, hb, if_neg (by omega), if_neg (by omega), if_neg (by omega), if_neg (by omega), if_pos h2, ← cast1, hf]
 rfl
theorem dats_word {s : ByteArray} {lv c : Int} {a : Nat} {b : UInt8} {w post : List UInt8} (h : At s a ((b :: w) ++ post)) (hp : stops post = true) (hw : ((b :: w).all nodel) = true) (hc : c + 1 ≤ 400) (hl : lv ≤ 40) :
  Dats 1 s lv a c ⟨atD ⟨(b :: w).toArray⟩, if atE ⟨(b :: w).toArray⟩ = 0 then ((a + (b :: w).length : Nat) : Int) else a, c + 1, atE ⟨(b :: w).toArray⟩⟩ := by
 have h' : At s a (b :: (w ++ post)) := h
 obtain ⟨_, h2, h3⟩ := at_cons h'
 have hb1 : nodel b = true := by simp only [List.all_cons, Bool.and_eq_true] at hw; exact hw.1
 have hn := nodel_not hb1
 have hb := blk_stop h' hn.1
 have e1 := word_at hp h hw
 have e2 := wend_word hp _ _ h hw
 unfold Dats
 rw [datS, hb, if_neg (by omega), if_neg (by omega), if_neg (by omega), if_neg (by omega), if_neg (by omega), if_neg (by omega), e1, e2]
mutual
theorem dat_parse : ∀ (x : Sx), okX x = true → ∀ (s : ByteArray) (lv c : Int) (a : Nat) (post : List UInt8), At s a (sxT x ++ post) → stops post = true → lv + sxH x ≤ 41 → c + sxC x ≤ 400 →
  Dats (sxF x) s lv a c ⟨sxD x, ((a + (sxT x).length : Nat) : Int), c + sxC x, 0⟩
 | .wd w, hx, s, lv, c, a, post, h, hp, hl, hc => by
   simp only [okX] at hx
   obtain ⟨b, t, rfl, _⟩ := okW_cons hx
   simp only [okW, Bool.and_eq_true, beq_iff_eq] at hx
   simp only [sxT, sxH, sxC, sxD, sxF] at h hl hc ⊢
   have := dats_word (lv := lv) (c := c) h hp hx.1.2 (by omega) (by omega)
   rw [if_pos hx.2, hx.2] at this
   exact this
 | .li l, hx, s, lv, c, a, post, h, hp, hl, hc => by
   simp only [okX] at hx
   simp only [sxT, sxH, sxC, sxD, sxF] at h hl hc ⊢
   have h' : At s a (40 :: (sxTL l ++ 41 :: post)) := by simpa using h
   have := lis_parse l hx s lv (c + 1) (a + 1) [] post (at_cons h').1 (by omega) (by omega)
   refine dats_open h' (by omega) (by omega) ?_
   have e1 : ((a + (40 :: (sxTL l ++ [41])).length : Nat) : Int) = ((a + 1 + (sxTL l).length + 1 : Nat) : Int) := by simp; omega
   have e2 : c + ((1 + sxCL l : Nat) : Int) = c + 1 + sxCL l := by omega
   rw [e1, e2]
   simpa using this
 | .qu l, hx, s, lv, c, a, post, h, hp, hl, hc => by
   simp only [okX] at hx
   simp only [sxT, sxH, sxC, sxD, sxF] at h hl hc ⊢
   have h' : At s a (39 :: 40 :: (sxTL l ++ 41 :: post)) := by simpa using h
   have h'' := (at_cons h').1
   have := lis_parse l hx s (lv + 1) (c + 1 + 1) (a + 1 + 1) [] post (at_cons h'').1 (by omega) (by omega)
   have := dats_open (lv := lv + 1) (c := c + 1) h'' (by omega) (by omega) this
   have := dats_quote (lv := lv) (c := c) h' (by omega) (by omega) this
   have e1 : ((a + (39 :: 40 :: (sxTL l ++ [41])).length : Nat) : Int) = ((a + 1 + 1 + (sxTL l).length + 1 : Nat) : Int) := by simp; omega
   have e2 : c + ((2 + sxCL l : Nat) : Int) = c + 1 + 1 + sxCL l := by omega
   rw [e1, e2]
   simpa using this
theorem lis_parse : ∀ (l : List Sx), okXL l = true → ∀ (s : ByteArray) (lv c : Int) (a : Nat) (acc : List Dm) (post : List UInt8), At s a (sxTL l ++ 41 :: post) → lv + 1 + sxHL l ≤ 41 → c + sxCL l ≤ 400 →
  Liss (sxFL l) s lv a c acc ⟨.mk 4 0 noS (acc ++ sxDL l), ((a + (sxTL l).length + 1 : Nat) : Int), c + sxCL l, 0⟩
 | [], hx, s, lv, c, a, acc, post, h, hl, hc => by
   simp only [sxTL, sxDL, sxCL, sxFL, List.nil_append] at h ⊢
   have := liss_close (lv := lv) (c := c) (acc := acc) h
   simpa using this
 | x :: l, hx, s, lv, c, a, acc, post, h, hl, hc => by
   simp only [okXL, Bool.and_eq_true] at hx
   simp only [sxTL, sxHL, sxDL, sxCL, sxFL] at h hl hc ⊢
   rw [List.append_assoc] at h
   have h1 := dat_parse x hx.1 s (lv + 1) c a _ h (stops_tail l post) (by omega) (by omega)
   obtain ⟨b, t, e, hb, hb'⟩ := sxT_head hx.1
   have h0 : At s a (b :: (t ++ (sxTS l ++ 41 :: post))) := by rw [e] at h; exact h
   have eb := blk_stop h0 hb
   have hy := (at_cons h0).2.1
   have h2 := lis_tail l hx.2 s lv (c + sxC x) (a + (sxT x).length) (acc ++ [sxD x]) post (at_app h) (by omega) (by omega)
   have h3 := liss_cons (acc := acc) (lv := lv) (a := a) (by rw [eb]; omega) (by rw [eb]; exact h1) h2
   have e1 : ((a + (sxT x ++ sxTS l).length + 1 : Nat) : Int) = ((a + (sxT x).length + (sxTS l).length + 1 : Nat) : Int) := by simp; omega
   have e2 : c + ((sxC x + sxCL l : Nat) : Int) = c + sxC x + sxCL l := by omega
   rw [e1, e2]
   simpa using h3
theorem lis_tail : ∀ (l : List Sx), okXL l = true → ∀ (s : ByteArray) (lv c : Int) (a : Nat) (acc : List Dm) (post : List UInt8), At s a (sxTS l ++ 41 :: post) → lv + 1 + sxHL l ≤ 41 → c + sxCL l ≤ 400 →
  Liss (sxFL l) s lv a c acc ⟨.mk 4 0 noS (acc ++ sxDL l), ((a + (sxTS l).length + 1 : Nat) : Int), c + sxCL l, 0⟩
 | [], hx, s, lv, c, a, acc, post, h, hl, hc => by
   simp only [sxTS, sxDL, sxCL, sxFL, List.nil_append] at h ⊢
   have := liss_close (lv := lv) (c := c) (acc := acc) h
   simpa using this
 | x :: l, hx, s, lv, c, a, acc, post, h, hl, hc => by
   simp only [okXL, Bool.and_eq_true] at hx
   simp only [sxTS, sxHL, sxDL, sxCL, sxFL] at h hl hc ⊢
   have h : At s a (32 :: (sxT x ++ (sxTS l ++ 41 :: post))) := by simpa using h
   have hg := blk_go h (.inl rfl)
   have h' := (at_cons h).1
   have h1 := dat_parse x hx.1 s (lv + 1) c (a + 1) _ h' (stops_tail l post) (by omega) (by omega)
   obtain ⟨b, t, e, hb, hb'⟩ := sxT_head hx.1
   have h0 : At s (a + 1) (b :: (t ++ (sxTS l ++ 41 :: post))) := by rw [e] at h'; exact h'
   have eb := blk_stop h0 hb
   have hy := (at_cons h0).2.1
   have h2 := lis_tail l hx.2 s lv (c + sxC x) (a + 1 + (sxT x).length) (acc ++ [sxD x]) post (at_app h') (by omega) (by omega)
   have h3 := liss_cons (acc := acc) (lv := lv) (a := a) (by rw [hg, eb]; omega) (by rw [hg, eb]; exact h1) h2
   have e1 : ((a + (32 :: (sxT x ++ sxTS l)).length + 1 : Nat) : Int) = ((a + 1 + (sxT x).length + (sxTS l).length + 1 : Nat) : Int) := by simp; omega
   have e2 : c + ((sxC x + sxCL l : Nat) : Int) = c + sxC x + sxCL l := by omega
   rw [e1, e2]
   simpa using h3
end
theorem redS_succ (s : ByteArray) : ∀ (f : Nat) (a c : Int) (acc : List Dm) (r : RR), redS s f a c acc = some r → redS s (f + 1) a c acc = some r
 | 0, _, _, _, _, h => by simp [redS] at h
 | f + 1, a, c, acc, r, h => by
   rw [redS] at h ⊢
   split at h
   · rename_i hlt
     rw [if_pos hlt]
     split at h
     · cases h
     · rename_i q hq
       rw [datS_mono (Nat.le_succ f) hq]
       simp only
       split at h
       · rename_i g; rw [if_pos g]; exact h
       · rename_i g; rw [if_neg g]; exact redS_succ s f _ _ _ _ h
   · rename_i hlt; rw [if_neg hlt]; exact h
theorem redS_mono {s : ByteArray} {f g : Nat} (h : f ≤ g) {a c : Int} {acc : List Dm} {r : RR} (hr : redS s f a c acc = some r) : redS s g a c acc = some r := by
 induction h with
 | refl => exact hr
 | step _ ih => exact redS_succ s _ _ _ _ _ ih
theorem readS_mono {s : ByteArray} {f g : Nat} (h : f ≤ g) {r : RR} (hr : readS f s = some r) : readS g s = some r := redS_mono h hr
def Reds (f : Nat) (s : ByteArray) (a c : Int) (acc : List Dm) (r : RR) : Prop := redS s f a c acc = some r
theorem reds_end {s : ByteArray} {a c : Int} {acc : List Dm} (h : ¬ a < s.size) : Reds 1 s a c acc ⟨acc, 0, 0⟩ := by unfold Reds; rw [redS, if_neg h]
theorem reds_one {f g : Nat} {s : ByteArray} {a c a' c' : Int} {acc : List Dm} {d : Dm} {r : RR} (h : a < s.size) (hf : Dats f s 1 a c ⟨d, a', c', 0⟩) (hg : Reds g s (blk s a') c' (acc ++ [d]) r) : Reds (max f g + 1) s a c acc r := by
 unfold Reds Dats at *
 rw [redS, if_pos h, datS_mono (Nat.le_max_left f g) hf]
 simp only
 rw [if_neg (by simp), redS_mono (Nat.le_max_right f g) hg]
theorem blk_first {s : ByteArray} {x : Sx} {post : List UInt8} (hx : okX x = true) {a : Nat} (h : At s a (sxT x ++ post)) : blk s a = a := by
 obtain ⟨b, t, e, hb, _⟩ := sxT_head hx
 have h : At s a (b :: (t ++ post)) := by rw [e] at h; exact h
 exact blk_stop h hb
theorem stops_sxTS (l : List Sx) : stops (sxTS l) = true := by
 cases l with
 | nil => rfl
 | cons x l => simp only [sxTS]; rfl
theorem reds_tail : ∀ (l : List Sx), okXL l = true → ∀ (s : ByteArray) (c : Int) (a : Nat) (acc : List Dm), At s a (sxTS l) → sxHL l ≤ 40 → c + sxCL l ≤ 400 → Reds (sxFL l) s (blk s a) c acc ⟨acc ++ sxDL l, 0, 0⟩
 | [], _, s, c, a, acc, h, _, _ => by
   simp only [sxTS, sxDL, sxFL, List.append_nil] at h ⊢
   have e := blk_end h
   rw [e]
   exact reds_end (by have := at_nil h; omega)
 | x :: l, hx, s, c, a, acc, h, hl, hc => by
   simp only [okXL, Bool.and_eq_true] at hx
   simp only [sxTS, sxHL, sxDL, sxCL, sxFL] at h hl hc ⊢
   have hg := blk_go h (.inl rfl)
   have h' := (at_cons h).1
   have e := blk_first hx.1 h'
   have h1 := dat_parse x hx.1 s 1 c (a + 1) _ h' (stops_sxTS l) (by omega) (by omega)
   have hlt : ((a + 1 : Nat) : Int) < s.size := by
     obtain ⟨b, t, e, _, _⟩ := sxT_head hx.1
     rw [e] at h'
     exact (at_cons h').2.2
   have h2 := reds_tail l hx.2 s (c + sxC x) (a + 1 + (sxT x).length) (acc ++ [sxD x]) (at_app h') (by omega) (by omega)
   rw [hg, e]
   have := reds_one hlt h1 h2
   simpa using this
theorem read_trees {s : ByteArray} (l : List Sx) (hx : okXL l = true) (hs : s.data.toList = sxTL l) (hh : sxHL l ≤ 40) (hc : sxCL l ≤ 400) (hf : sxFL l ≤ 400) : readS 400 s = some ⟨sxDL l, 0, 0⟩ := by
 refine redS_mono hf ?_
 show Reds (sxFL l) s (blk s 0) 0 [] ⟨sxDL l, 0, 0⟩
 have h : At s 0 (sxTL l) := ⟨Nat.zero_le _, hs⟩
 match l, hx, h, hh, hc with
 | [], _, h, _, _ =>
   simp only [sxTL, sxDL, sxFL] at h ⊢
   have e := blk_end h
   rw [show (0 : Int) = ((0 : Nat) : Int) from rfl, e]
   exact reds_end (by have := at_nil h; omega)
 | x :: l, hx, h, hh, hc =>
   simp only [okXL, Bool.and_eq_true] at hx
   simp only [sxTL, sxHL, sxDL, sxCL, sxFL] at h hh hc ⊢
   have e := blk_first hx.1 h
   have h1 := dat_parse x hx.1 s 1 0 0 _ h (stops_sxTS l) (by omega) (by omega)
   have hlt : ((0 : Nat) : Int) < s.size := by
     obtain ⟨b, t, e, _, _⟩ := sxT_head hx.1
     rw [e] at h
     exact (at_cons h).2.2
   have h2 := reds_tail l hx.2 s (0 + sxC x) (0 + (sxT x).length) ([] ++ [sxD x]) (at_app h) (by omega) (by omega)
   rw [show (0 : Int) = ((0 : Nat) : Int) from rfl, e]
   have := reds_one hlt h1 h2
   simpa using this
theorem tl_app (a b : ByteArray) : (a ++ b).data.toList = a.data.toList ++ b.data.toList := by
 rw [ByteArray.data_append, Array.toList_append]
def numW (n : Int) : Bool := okW (Lib.itoa n) && (atoiV ⟨(Lib.itoa n).toArray⟩ == n) && !isT ⟨(Lib.itoa n).toArray⟩ && !isF ⟨(Lib.itoa n).toArray⟩ && !symB ⟨(Lib.itoa n).toArray⟩ && isN ⟨(Lib.itoa n).toArray⟩ && decide ((Lib.itoa n).length ≤ 3)
theorem nums_all : ∀ n, n < 1000 → numW ((n : Nat) : Int) = true := by decide +kernel
theorem len_all' : ∀ i, i < 50 → ∀ j, j < 60 → (Lib.itoa ((60 * i + j : Nat) : Int)).length ≤ 4 ∧ (Lib.itoa (-((60 * i + j : Nat) : Int))).length ≤ 5 := by decide +kernel
theorem len_pos {n : Int} (h0 : 0 ≤ n) (h1 : n < 3000) : (itoaB n).size ≤ 4 := by
 have := (len_all' (n.toNat / 60) (by omega) (n.toNat % 60) (by omega)).1
 rw [show 60 * (n.toNat / 60) + n.toNat % 60 = n.toNat by omega, Int.toNat_of_nonneg h0] at this
 exact this
theorem len_neg {n : Int} (h0 : -3000 < n) (h1 : n < 3000) : (itoaB n).size ≤ 5 := by
 by_cases h : 0 ≤ n
 · have := len_pos h h1; omega
 · have := (len_all' ((-n).toNat / 60) (by omega) ((-n).toNat % 60) (by omega)).2
   rw [show 60 * ((-n).toNat / 60) + (-n).toNat % 60 = (-n).toNat by omega, Int.toNat_of_nonneg (by omega), Int.neg_neg] at this
   exact this
theorem num_word {n : Int} (h0 : 0 ≤ n) (h1 : n < 1000) : okW (itoaB n).data.toList = true ∧ atD (itoaB n) = .mk 1 n noS [] ∧ (itoaB n).size ≤ 3 := by
 have h := nums_all n.toNat (by omega)
 rw [Int.toNat_of_nonneg h0] at h
 simp only [numW, Bool.and_eq_true, Bool.not_eq_true', beq_iff_eq, decide_eq_true_eq] at h
 obtain ⟨⟨⟨⟨⟨⟨a1, a2⟩, a3⟩, a4⟩, a5⟩, a6⟩, a7⟩ := h
 refine ⟨a1, ?_, a7⟩
 have e : itoaB n = ⟨(Lib.itoa n).toArray⟩ := rfl
 unfold atD
 rw [e, a2, a3, a4, a5, a6]
 simp only [Bool.false_eq_true, if_false, if_true]
 rw [if_neg (by omega)]
end Rd
