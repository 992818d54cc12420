/- What the library's functions, the reader and the small ones tell, for the kernel's evaluator. -/
import Derived.Test.YtildnaomamnkgaaGreatDoorRdC
import Derived.Test.YtildnaomamnkgaaGreatDoorRxX6
set_option linter.unusedSimpArgs false
set_option linter.unusedVariables false
open Rx Go
namespace Gv
open Rd
abbrev tU8 : TypeId := 5
def inB (a b : Int) : Bool := decide (-9223372036854775808 <= a) && decide (b <= 9223372036854775807)
noncomputable def Lm (al : List SV) : T Res := match al with
 | [.dt (.cell (.int .i64 n))] => bif inB n n then .ret ⟨.sy (bT n), .none⟩ else .fail
 | [.ri .i64 a b n] => bif inB a b then .ret ⟨.sy (bT n), .none⟩ else .fail
 | _ => .fail
def yM (al : List SV) : T Res := match al with
 | [.ri .i64 a b n, .dt (.cell (.int .i64 m))] => bif inB a b && (decide (0 < m) && decide (m <= 1000000)) then .ret ⟨.ri .i64 0 (m - 1) (dK n m), .none⟩ else .fail
 | _ => .fail
def okn (n : Nat) : Bool := (Nat.ble 97 n && Nat.ble n 122) || ((Nat.ble 48 n && Nat.ble n 57) || [43, 45, 42, 47, 60, 62, 61, 63, 33, 95].any fun m => Nat.beq n m)
def LZ (s : ByteArray) : Bool :=
 decide (1 <= s.size /\ s.size <= 16 /\ ¬ (48 <= ak s 0 /\ ak s 0 <= 57) /\ (s.size = 1 ∨ ak s 0 ≠ 45 ∨ ak s 1 < 48 ∨ 57 < ak s 1)) && s.data.toList.all fun b => okn b.toNat
def yx (al : List SV) : T Res := match al with
 | [x] => match oo x with
   | some s => .ret ⟨.kb (LZ s), .none⟩
   | none => .fail
 | _ => .fail
def QH (i : Nat) : SV -> Bool
 | .ptr j 5 => Nat.beq i j
 | .dt (.cell (.pointer none)) => true
 | _ => false
def row0 : Nat -> Nat -> Dt := fun _ _ => aQ
def SQ (g : Nat -> Option Ob) (new : Nat) (p : SV) (ok : Nat -> Prop) (N : Nat -> Nat) (fn : Nat -> (Nat -> Nat -> Dt) -> Nat -> Nat -> Dt) : T Res := match p with
 | .ptr i 5 => match g i with
   | some (.cells 170 [x0, x1, x2, x3, x4, A, B, x7]) => bif QH i A && Nat.blt i new then (match B with
     | .nm j => match g j with
       | some (.row 5 1 n f) => bif !Nat.beq i j && Nat.blt j new then .need (ok n) (.ret ⟨.junk, ⟨[(i, some (.cells 170 [x0, x1, x2, x3, x4, .ptr i 5, .nm new, x7])), (j, none), (new, some (.row 5 1 (N n) (fn n f)))], [new]⟩⟩) else .fail
       | _ => .fail
     | .dt (.cell (.slice none 0 0)) => .need (ok 0) (.ret ⟨.junk, ⟨[(i, some (.cells 170 [x0, x1, x2, x3, x4, .ptr i 5, .nm (new + 1), x7])), (new, none), (new + 1, some (.row 5 1 (N 0) (fn 0 row0)))], [new, new + 1]⟩⟩)
     | _ => .fail) else .fail
   | _ => .fail
 | _ => .fail
def Nk : Dt -> UInt8
 | .cell (.int _ n) => n.toNat.toUInt8
 | _ => 0
def mQ (n : Nat) (f : Nat -> Nat -> Dt) : List UInt8 := (List.range n).map fun k => Nk (f k 0)
def Kn (n : Nat) (f : Nat -> Nat -> Dt) : Prop := 0 < n /\ n <= 100000 /\ ∀ k, k < n -> f k 0 = .cell (.int .u8 ((Nk (f k 0)).toNat))
def Xj (g : Nat -> Option Ob) (p : SV) : T Res := match p with
 | .ptr i 5 => match g i with
   | some (.cells 170 [_, _, _, _, _, _, .nm j, _]) => match g j with
     | some (.row 5 1 n f) => .need (Kn n f) (.ret ⟨.sy ⟨(mQ n f).toArray⟩, ⟨[(j, none)], []⟩⟩)
     | _ => .fail
   | _ => .fail
 | _ => .fail
def wsR (al : List SV) (g : Nat -> Option Ob) (new : Nat) : T Res := match al with
 | [p, x] => match oo x with
   | some s => SQ g new p (fun n => n + s.size <= 100000) (fun n => n + s.size) fun n f => Rx.eY n f (Ch s)
   | none => .fail
 | _ => .fail
def wbR (al : List SV) (g : Nat -> Option Ob) (new : Nat) : T Res := match al with
 | [p, .dt (.cell (.int .u8 c))] => SQ g new p (fun n => n <= 100000) (fun n => n + 1) fun n f => Rx.eY n f (lN 1 [.cell (.int .u8 c)])
 | _ => .fail
def bsR (al : List SV) (g : Nat -> Option Ob) : T Res := match al with
 | [p] => Xj g p
 | _ => .fail
inductive Dx where
 | mk (k : Int) (sym : Option (Int × Int)) (n : Int) (s : ByteArray) (l : List Dx)
mutual
def Dx.dm : Dx -> Dm
 | .mk k _ n s l => .mk k n s (sJ l)
def sJ : List Dx -> List Dm
 | [] => []
 | d :: l => d.dm :: sJ l
end
def nD (sym : Option (Int × Int)) (n : Int) : Dt := match sym with
 | some (a, b) => .ri .i64 a b n
 | none => .cell (.int .i64 n)
mutual
def dxT : Dx -> Nat -> Dt
 | .mk k sym n s l, j => match j with
   | 0 => .cell (.int .i64 k)
   | 1 => nD sym n
   | 2 => .cell (.string s)
   | _ => .arr 4 l.length (dxL l)
def dxL : List Dx -> Nat -> Nat -> Dt
 | [], _, _ => aQ
 | d :: l, i, j => match i with
   | 0 => dxT d j
   | i + 1 => dxL l i j
end
def T9 : List (Nat × List Dx) -> Nat -> Option (List Dx)
 | [], _ => none
 | x :: l, n => bif Nat.beq x.1 n then some x.2 else T9 l n
mutual
def Dx.fits : Dx -> Prop
 | .mk _ sym n _ l => (∀ a b, sym = some (a, b) -> a <= n /\ n <= b) /\ tX l
def tX : List Dx -> Prop
 | [] => True
 | d :: l => d.fits /\ tX l
end
def j5 (tbl : List (Nat × List Dx)) (al : List SV) (new : Nat) : T Res := match al with
 | [x] => match oo x with
   | some s => match T9 tbl new with
     | some r => .need (s.size <= 3000 /\ tO 400 s = some ⟨sJ r, 0, 0⟩ /\ tX r) (.ret ⟨.tup [.dt (.arr 4 r.length (dxL r)), .ki .i64 0, .ki .i64 0], .none⟩)
     | none => .fail
   | none => .fail
 | _ => .fail
def mkS (f : List SV -> (Nat -> Option Ob) -> Nat -> T Res) : Summ := ⟨false, fun _ _ _ => [], fun al g new _ => f al g new⟩
noncomputable def F (tbl : List (Nat × List Dx)) : FuncId -> Option Summ
 | 12 => some (mkS fun al _ _ => Lm al)
 | 8 => some (mkS fun al _ _ => yM al)
 | 25 => some (mkS fun al _ new => j5 tbl al new)
 | 124 => some (mkS fun al _ _ => yx al)
 | 140 => some (mkS fun al g new => wsR al g new)
 | 70 => some (mkS fun al g _ => bsR al g)
 | 197 => some (mkS fun al g new => wbR al g new)
 | _ => none
end Gv
open Rx Go
namespace Gv
def flT : List Nat := [0, 0, 0, 509, 499, 171798692093, 2013, 1100048513011, 83, 17179870663, 19, 134218099, 5, 1011, 5, 5, 72092830958489075, 17188391667, 1126999956395895, 332469263174894200391729021810883583, 33002528829407, 21, 13, 2923003971560093291123168138537876760321514930163, 20426010943356750102455122975, 2151679229, 287, 340438784863802128483979929532833333243, 87117612579302472245506388050680964186111, 7, 1967, 8796095383799, 73786976329199001567, 1125934270793727, 5070621744279577877710705768951, 141671264965950795945391, 5, 16661, 13, 5, 5, 18446745173225377797, 5575228834928520941377797709908061871702515, 5, 2365799431568289300655, 503332271, 18157215038439679, 9463758423473277435790, 21, 19, 2147976127, 1208925819614629243395023, 87750315369776932250847882348651167023103, 12554203470796218397703502735314585890091069003048985000923, 649056914357777168681793982029691, 158495049540526662882246852543, 75562475420728877916111, 31, 2554179786055560887369990570199, 7, 9665836393425380052274427992039, 22128178210873083698507421159, 19, 7, 132215, 202289411479978373988497910215637938362943936408804491263, 536871247, 4835703315050263671210995, 68719478911, 311941821002213275355054167, 5, 36046389272383487, 2658460745262000453307381188212558335, 158456929491438482501677359485, 18446884948641054935, 4295491835, 182687704666529018274933718573648359936602015735, 21, 21, 21, 21, 21, 21, 2119, 4845148088266925705003251, 19, 15, 20769187434139864493256809002303871, 15, 19, 15, 2724917391364358146322347105288403879967, 5, 1090769183, 19, 15, 2097183, 142147677, 15, 65565, 66483, 504373101, 66483, 15, 2540253602857752340990790502359, 4377871547, 541255, 604462909811721240584143, 31, 19, 15, 31, 31, 1047, 16806963, 1099511636471, 36028831412389887, 19, 15, 304895327062271829692732351779820974356307, 288230377226537975, 504373101, 66483, 15, 281475037528093, 164804481567692979617900529862607, 534619, 21, 8647, 27, 5, 11692372545892507385973932188700941862030062829391, 66483, 191562307986433075708231270773625842275991812479389695, 19, 159, 56542776022183744906655527327236205378149232952363318351474535186628152295, 115, 11, 2175, 51, 604467521493333015806039, 1008806350890730351, 314748133707623186461, 730750992890023971659443030895836030932479900659, 2097179, 131103, 2147483659, 19, 4157, 66483, 7, 21, 7, 65619, 33824967, 531, 19, 66631, 21270244091048602060916999595220797199, 16071, 79247505327954711886749236495, 15, 19, 15, 15, 66483, 15, 66483, 15, 79, 155, 66483, 7, 65619, 344605, 2508761716333010747519, 1180727293855210177399, 7, 3848417613915, 515, 3, 24792424299012852635503, 4759296035032941069479, 31, 31, 66483, 303, 343, 4503603922338759, 19, 2305845208522166031, 45, 619576846050668277445704647, 8796093023175, 2417852215725195025154023, 524353, 19, 1991, 71, 1267921399612111308807989246927, 19, 73861163094217066365, 17247509535, 7, 19, 66483, 1100518301127, 19, 1099511892423, 51, 19, 5, 5, 262411, 17592186052659, 983399, 2147484263, 15, 15, 5, 1, 154819280259579954382243831, 5070602405635356146450498059295, 0, 0, 594912002450663878599, 19, 19, 71, 71, 66483, 21, 563, 147, 66483, 295147905181504570311, 749019592093908130998168547243562859198691857383367, 77, 5, 19, 19, 0, 3, 5, 3259264009699125022261772349, 3, 525, 0, 0, 0, 0, 0, 0, 0, 0, 0, 0, 0, 0, 0, 0, 0, 0, 0, 0, 0, 0, 0, 0, 0, 0, 0, 0, 0, 0, 0, 0, 0, 0, 0, 0]
def fl (f : Nat) : Nat := flT.getD f 0
def win (f n _r : Nat) : Nat := match f with
 | 161 => Nat.pow 2 (n - 75)
 | 209 => Nat.pow 2 (n - 75)
 | 107 => 16384
 | 56 => 8192
 | 119 => 4096
 | 144 => 4096
 | 28 => 131072
 | 19 => 131072
 | 6 => 1048576
 | _ => 64
noncomputable def go (tbl : List (Nat × List Dx)) (f : FuncId) (al : List SV) : R := xW Rd.prog (F tbl) fl win 4000 100 16000000 0 f al .nil 0 fun s ob nb => .ret (s, ⟨ob, nb⟩)
end Gv
set_option linter.unusedSimpArgs false
set_option linter.unusedVariables false
open Rx Go
namespace Rd
def At (s : ByteArray) (a : Nat) (t : List UInt8) : Prop := a <= s.size /\ s.data.toList.drop a = t
theorem SA (s : ByteArray) : s.data.toList.length = s.size := rfl
theorem at_len {s : ByteArray} {a : Nat} {t : List UInt8} (h : At s a t) : a + t.length = s.size := by
 have h1 : t.length = s.data.toList.length - a := by rw [← h.2, List.length_drop]
 have := SA s
 have := h.1
 omega
theorem AQ {s : ByteArray} {a : Nat} {u t : List UInt8} (h : At s a (u ++ t)) : At s (a + u.length) t := by
 have hl := at_len h
 rw [List.length_append] at hl
 refine ⟨by omega, ?_⟩
 rw [← List.drop_drop, h.2, List.drop_left]
theorem bK {s : ByteArray} {a : Nat} {b : UInt8} {t : List UInt8} (h : At s a (b :: t)) : At s (a + 1) t /\ ak s a = b.toNat /\ (a : Int) < s.size := by
 have hl := at_len h
 rw [List.length_cons] at hl
 have h1 : At s (a + 1) t := AQ (u := [b]) h
 refine ⟨h1, ?_, by omega⟩
 have h2 : s.data.toList[a]? = some b := by
  have : (s.data.toList.drop a)[0]? = some b := by rw [h.2]; rfl
  rw [List.getElem?_drop] at this
  simpa using this
 unfold ak
 rw [List.getD_eq_getElem?_getD, Int.toNat_natCast, h2]
 rfl
theorem at_nil {s : ByteArray} {a : Nat} (h : At s a []) : (a : Int) = s.size := by
 have := at_len h
 simp only [List.length_nil] at this; omega
theorem Sg (s : ByteArray) : At s 0 s.data.toList := ⟨Nat.zero_le _, rfl⟩
theorem RN : ∀ n, n < 256 -> okc ((n : Nat) : Int) = Gv.okn n := by decide +kernel
theorem Ej {s : ByteArray} : ∀ (t : List UInt8) (a : Nat), At s a t -> rT s a = t.all fun b => Gv.okn b.toNat
 | [], a, h => by
   have := at_nil h
   rw [rT, if_neg (by omega)]; rfl
 | b :: t, a, h => by
   obtain ⟨h1, h2, h3⟩ := bK h
   rw [rT, if_pos h3, h2, RN _ b.toNat_lt, show (a : Int) + 1 = ((a + 1 : Nat) : Int) by omega, Ej t (a + 1) h1]
   rfl
theorem Ql (s : ByteArray) : Gv.LZ s = og s := by
 unfold Gv.LZ og
 congr 1
 exact (Ej _ 0 (Sg s)).symm
theorem Ea (a : Nat) : ((a + 1 : Nat) : Int) = (a : Int) + 1 := by omega
theorem Oc {s : ByteArray} {a : Nat} {b : UInt8} {t : List UInt8} (h : At s a (b :: t)) (hb : b.toNat = 32 ∨ b.toNat = 10 ∨ b.toNat = 9) : blk s a = blk s ((a + 1 : Nat) : Int) := by
 obtain ⟨_, h1, h2⟩ := bK h
 rw [blk.eq_1 s a, if_pos h2, if_pos (by omega), Ea]
theorem Xk {s : ByteArray} {a : Nat} {b : UInt8} {t : List UInt8} (h : At s a (b :: t)) (hb : b.toNat = 59) : blk s a = blk s (cmt s ((a + 1 : Nat) : Int)) := by
 obtain ⟨_, h1, h2⟩ := bK h
 rw [blk.eq_1 s a, if_pos h2, if_neg (by omega), if_pos (by omega), Ea]
theorem ku {s : ByteArray} {a : Nat} {b : UInt8} {t : List UInt8} (h : At s a (b :: t)) (hb : ¬ (b.toNat = 32 ∨ b.toNat = 10 ∨ b.toNat = 9 ∨ b.toNat = 59)) : blk s a = a := by
 obtain ⟨_, h1, h2⟩ := bK h
 rw [blk, if_pos h2, if_neg (by omega), if_neg (by omega)]
theorem LV {s : ByteArray} {a : Nat} (h : At s a []) : blk s a = a := by
 have := at_nil h
 rw [blk, if_neg (by omega)]
theorem Ye {s : ByteArray} {a : Nat} {b : UInt8} {t : List UInt8} (h : At s a (b :: t)) (hb : b.toNat ≠ 10) : cmt s a = cmt s ((a + 1 : Nat) : Int) := by
 obtain ⟨_, h1, h2⟩ := bK h
 rw [cmt.eq_1 s a, if_pos ⟨h2, by omega⟩, Ea]
theorem Xq {s : ByteArray} {a : Nat} {b : UInt8} {t : List UInt8} (h : At s a (b :: t)) (hb : b.toNat = 10) : cmt s a = a := by
 obtain ⟨_, h1, h2⟩ := bK h
 rw [cmt, if_neg (by omega)]
theorem Xy {s : ByteArray} {a : Nat} (h : At s a []) : cmt s a = a := by
 have := at_nil h
 rw [cmt, if_neg (by omega)]
def qw (b : UInt8) : Bool := !(b.toNat == 32 || b.toNat == 10 || b.toNat == 9 || b.toNat == 40 || b.toNat == 41 || b.toNat == 59 || b.toNat == 39)
theorem RP : ∀ n, n < 256 -> (decide (ixB delims ((n : Nat) : Int) < 0)) = !(n == 32 || n == 10 || n == 9 || n == 40 || n == 41 || n == 59 || n == 39) := by decide +kernel
theorem Qd (b : UInt8) : (ixB delims (b.toNat : Int) < 0) ↔ qw b = true := by
 have h := RP b.toNat b.toNat_lt
 unfold qw
 rw [← h, decide_eq_true_eq]
def stops : List UInt8 -> Bool
 | [] => true
 | b :: _ => !qw b
theorem vv {s : ByteArray} {post : List UInt8} (hp : stops post = true) : ∀ (w : List UInt8) (a : Nat), At s a (w ++ post) -> (w.all qw) = true -> aY s a = ((a + w.length : Nat) : Int)
 | [], a, h, _ => by
   have e : ((a + ([] : List UInt8).length : Nat) : Int) = a := by simp
   rw [e]
   match post, hp, h with
   | [], _, h => have := at_nil h; rw [aY, if_neg (by omega)]
   | b :: t, hp, h =>
     obtain ⟨_, h1, h2⟩ := bK h
     have hn : ¬ ixB delims (ak s a) < 0 := by
       rw [h1, Qd]
       simpa [stops] using hp
     rw [aY, if_neg (fun h => hn h.2)]
 | b :: w, a, h, hw => by
   simp only [List.all_cons, Bool.and_eq_true] at hw
   obtain ⟨h0, h1, h2⟩ := bK h
   have hn : ixB delims (ak s a) < 0 := by rw [h1, Qd]; exact hw.1
   have ih := vv hp w (a + 1) h0 hw.2
   rw [aY, if_pos ⟨h2, hn⟩, ← Ea, ih]
   simp only [List.length_cons]; omega
theorem Ta {s : ByteArray} {post w : List UInt8} {a : Nat} (hp : stops post = true) (h : At s a (w ++ post)) (hw : (w.all qw) = true) : aB s a a = ⟨w.toArray⟩ := by
 have e := vv hp w a h hw
 unfold aB
 rw [e]
 simp only [Int.toNat_natCast]
 have hx : (s.extract a (a + w.length)).data = w.toArray := by
  apply Array.ext'
  simp only [ByteArray.data_extract, Array.toList_extract]
  rw [List.extract_eq_take_drop, h.2]
  simp
 exact ByteArray.ext hx
def okW (w : List UInt8) : Bool := !w.isEmpty && w.all qw && atE ⟨w.toArray⟩ == 0
inductive Sx where
 | wd (w : List UInt8)
 | li (l : List Sx)
 | qu (l : List Sx)
mutual
def sxT : Sx -> List UInt8
 | .wd w => w
 | .li l => 40 :: (lZ l ++ [41])
 | .qu l => 39 :: 40 :: (lZ l ++ [41])
def jK : List Sx -> List UInt8
 | [] => []
 | x :: l => 32 :: (sxT x ++ jK l)
def lZ : List Sx -> List UInt8
 | [] => []
 | x :: l => sxT x ++ jK l
end
mutual
def sxD : Sx -> Dm
 | .wd w => atD ⟨w.toArray⟩
 | .li l => .mk 4 0 noS (l8 l)
 | .qu l => .mk 4 0 noS [.mk 3 0 mZ [], .mk 4 0 noS (l8 l)]
def l8 : List Sx -> List Dm
 | [] => []
 | x :: l => sxD x :: l8 l
end
mutual
def sxC : Sx -> Nat
 | .wd _ => 1
 | .li l => 1 + jF l
 | .qu l => 2 + jF l
def jF : List Sx -> Nat
 | [] => 0
 | x :: l => sxC x + jF l
end
mutual
def sxH : Sx -> Nat
 | .wd _ => 1
 | .li l => 1 + xZ l
 | .qu l => 2 + xZ l
def xZ : List Sx -> Nat
 | [] => 0
 | x :: l => max (sxH x) (xZ l)
end
mutual
def okX : Sx -> Bool
 | .wd w => okW w
 | .li l => sI l
 | .qu l => sI l
def sI : List Sx -> Bool
 | [] => true
 | x :: l => okX x && sI l
end
theorem AA {w : List UInt8} (h : okW w = true) : ∃ b t, w = b :: t /\ qw b = true := by
 simp only [okW, Bool.and_eq_true] at h
 match w, h with
 | [], h => simp at h
 | b :: t, h =>
   simp only [List.all_cons, Bool.and_eq_true] at h
   exact ⟨b, t, rfl, h.1.2.1⟩
theorem Cx {b : UInt8} (h : qw b = true) : ¬ (b.toNat = 32 ∨ b.toNat = 10 ∨ b.toNat = 9 ∨ b.toNat = 59) /\ b.toNat ≠ 40 /\ b.toNat ≠ 41 /\ b.toNat ≠ 39 := by
 simp only [qw, Bool.not_eq_true', Bool.or_eq_false_iff, beq_eq_false_iff_ne] at h
 omega
theorem oZ {x : Sx} (h : okX x = true) : ∃ b t, sxT x = b :: t /\ ¬ (b.toNat = 32 ∨ b.toNat = 10 ∨ b.toNat = 9 ∨ b.toNat = 59) /\ b.toNat ≠ 41 := by
 cases x with
 | wd w =>
   simp only [okX] at h
   obtain ⟨b, t, e, hb⟩ := AA h
   have := Cx hb
   exact ⟨b, t, by simp only [sxT, e], this.1, this.2.2.1⟩
 | li l => exact ⟨40, lZ l ++ [41], by simp only [sxT], by decide, by decide⟩
 | qu l => exact ⟨39, 40 :: (lZ l ++ [41]), by simp only [sxT], by decide, by decide⟩
theorem XC (x : Sx) : 1 <= sxC x := by
 cases x <;> simp only [sxC] <;> omega
theorem GL (t : List UInt8) : stops (41 :: t) = true := rfl
theorem Au (l : List Sx) (t : List UInt8) : stops (jK l ++ 41 :: t) = true := by
 cases l with
 | nil => simp only [jK, List.nil_append]; exact GL t
 | cons x l => simp only [jK, List.cons_append]; rfl
mutual
def sxF : Sx -> Nat
 | .wd _ => 1
 | .li l => pF l + 1
 | .qu l => pF l + 1 + 1
def pF : List Sx -> Nat
 | [] => 1
 | x :: l => max (sxF x) (pF l) + 1
end
def xV (f : Nat) (s : ByteArray) (lv a c : Int) (r : PR) : Prop := iF s f lv a c = some r
def FW (f : Nat) (s : ByteArray) (lv a c : Int) (acc : List Dm) (r : PR) : Prop := kK s f lv a c acc = some r
theorem CK {f g : Nat} {s : ByteArray} {lv a c : Int} {acc : List Dm} {d : Dm} {a' c' : Int} {r : PR} (hb : ¬ (blk s a < s.size /\ ak s (blk s a) = 41)) (hf : xV f s (lv + 1) (blk s a) c ⟨d, a', c', 0⟩) (hg : FW g s lv a' c' (acc ++ [d]) r) : FW (max f g + 1) s lv a c acc r := by
 unfold FW xV at *
 rw [kK, if_neg hb, jS (Nat.le_max_left f g) hf]
 simp only
 rw [if_neg (by simp), MW (Nat.le_max_right f g) hg]
theorem AO {s : ByteArray} {lv c : Int} {a : Nat} {acc : List Dm} {t : List UInt8} (h : At s a (41 :: t)) : FW 1 s lv a c acc ⟨.mk 4 0 noS acc, a + 1, c, 0⟩ := by
 obtain ⟨_, h1, h2⟩ := bK h
 have hb := ku h (by decide)
 unfold FW
 rw [kK, hb, if_pos ⟨h2, by rw [h1]; rfl⟩]
theorem Dr {f : Nat} {s : ByteArray} {lv c : Int} {a : Nat} {t : List UInt8} {r : PR} (h : At s a (40 :: t)) (hc : c + 1 <= 400) (hl : lv <= 40) (hf : FW f s lv ((a + 1 : Nat) : Int) (c + 1) [] r) : xV (f + 1) s lv a c r := by
 obtain ⟨_, h2, h3⟩ := bK h
 have h2 : ak s a = 40 := by rw [h2]; rfl
 have hb := ku h (by decide)
 unfold FW xV at *
 rw [iF, hb, if_neg (by omega), if_neg (by omega), if_neg (by omega), if_neg (by omega), if_neg (by omega), if_pos h2, ← Ea, hf]
theorem JM {f : Nat} {s : ByteArray} {lv c : Int} {a : Nat} {t : List UInt8} {r : PR} (h : At s a (39 :: t)) (hc : c + 1 <= 400) (hl : lv <= 40) (hf : xV f s (lv + 1) ((a + 1 : Nat) : Int) (c + 1) r) :
  xV (f + 1) s lv a c ⟨.mk 4 0 noS [.mk 3 0 mZ [], r.d], r.a, r.c, r.e⟩ := by
 obtain ⟨_, h2, h3⟩ := bK h
 have h2 : ak s a = 39 := by rw [h2]; rfl
 have hb := ku h (by decide)
 unfold xV at *
 rw [iF, hb, if_neg (by omega), if_neg (by omega), if_neg (by omega), if_neg (by omega), if_pos h2, ← Ea, hf]
 rfl
theorem Nv {s : ByteArray} {lv c : Int} {a : Nat} {b : UInt8} {w post : List UInt8} (h : At s a ((b :: w) ++ post)) (hp : stops post = true) (hw : ((b :: w).all qw) = true) (hc : c + 1 <= 400) (hl : lv <= 40) :
  xV 1 s lv a c ⟨atD ⟨(b :: w).toArray⟩, if atE ⟨(b :: w).toArray⟩ = 0 then ((a + (b :: w).length : Nat) : Int) else a, c + 1, atE ⟨(b :: w).toArray⟩⟩ := by
 have h' : At s a (b :: (w ++ post)) := h
 obtain ⟨_, h2, h3⟩ := bK h'
 have hb1 : qw b = true := by simp only [List.all_cons, Bool.and_eq_true] at hw; exact hw.1
 have hn := Cx hb1
 have hb := ku h' hn.1
 have e1 := Ta hp h hw
 have e2 := vv hp _ _ h hw
 unfold xV
 rw [iF, hb, if_neg (by omega), if_neg (by omega), if_neg (by omega), if_neg (by omega), if_neg (by omega), if_neg (by omega), e1, e2]
mutual
theorem qJ : ∀ (x : Sx), okX x = true -> ∀ (s : ByteArray) (lv c : Int) (a : Nat) (post : List UInt8), At s a (sxT x ++ post) -> stops post = true -> lv + sxH x <= 41 -> c + sxC x <= 400 ->
  xV (sxF x) s lv a c ⟨sxD x, ((a + (sxT x).length : Nat) : Int), c + sxC x, 0⟩
 | .wd w, hx, s, lv, c, a, post, h, hp, hl, hc => by
   simp only [okX] at hx
   obtain ⟨b, t, rfl, _⟩ := AA hx
   simp only [okW, Bool.and_eq_true, beq_iff_eq] at hx
   simp only [sxT, sxH, sxC, sxD, sxF] at h hl hc ⊢
   have := Nv (lv := lv) (c := c) h hp hx.1.2 (by omega) (by omega)
   rw [if_pos hx.2, hx.2] at this
   exact this
 | .li l, hx, s, lv, c, a, post, h, hp, hl, hc => by
   simp only [okX] at hx
   simp only [sxT, sxH, sxC, sxD, sxF] at h hl hc ⊢
   have h' : At s a (40 :: (lZ l ++ 41 :: post)) := by simpa using h
   have := DY l hx s lv (c + 1) (a + 1) [] post (bK h').1 (by omega) (by omega)
   refine Dr h' (by omega) (by omega) ?_
   have e1 : ((a + (40 :: (lZ l ++ [41])).length : Nat) : Int) = ((a + 1 + (lZ l).length + 1 : Nat) : Int) := by simp; omega
   have e2 : c + ((1 + jF l : Nat) : Int) = c + 1 + jF l := by omega
   rw [e1, e2]
   simpa using this
 | .qu l, hx, s, lv, c, a, post, h, hp, hl, hc => by
   simp only [okX] at hx
   simp only [sxT, sxH, sxC, sxD, sxF] at h hl hc ⊢
   have h' : At s a (39 :: 40 :: (lZ l ++ 41 :: post)) := by simpa using h
   have h'' := (bK h').1
   have := DY l hx s (lv + 1) (c + 1 + 1) (a + 1 + 1) [] post (bK h'').1 (by omega) (by omega)
   have := Dr (lv := lv + 1) (c := c + 1) h'' (by omega) (by omega) this
   have := JM (lv := lv) (c := c) h' (by omega) (by omega) this
   have e1 : ((a + (39 :: 40 :: (lZ l ++ [41])).length : Nat) : Int) = ((a + 1 + 1 + (lZ l).length + 1 : Nat) : Int) := by simp; omega
   have e2 : c + ((2 + jF l : Nat) : Int) = c + 1 + 1 + jF l := by omega
   rw [e1, e2]
   simpa using this
theorem DY : ∀ (l : List Sx), sI l = true -> ∀ (s : ByteArray) (lv c : Int) (a : Nat) (acc : List Dm) (post : List UInt8), At s a (lZ l ++ 41 :: post) -> lv + 1 + xZ l <= 41 -> c + jF l <= 400 ->
  FW (pF l) s lv a c acc ⟨.mk 4 0 noS (acc ++ l8 l), ((a + (lZ l).length + 1 : Nat) : Int), c + jF l, 0⟩
 | [], hx, s, lv, c, a, acc, post, h, hl, hc => by
   simp only [lZ, l8, jF, pF, List.nil_append] at h ⊢
   have := AO (lv := lv) (c := c) (acc := acc) h
   simpa using this
 | x :: l, hx, s, lv, c, a, acc, post, h, hl, hc => by
   simp only [sI, Bool.and_eq_true] at hx
   simp only [lZ, xZ, l8, jF, pF] at h hl hc ⊢
   rw [List.append_assoc] at h
   have h1 := qJ x hx.1 s (lv + 1) c a _ h (Au l post) (by omega) (by omega)
   obtain ⟨b, t, e, hb, hb'⟩ := oZ hx.1
   have h0 : At s a (b :: (t ++ (jK l ++ 41 :: post))) := by rw [e] at h; exact h
   have eb := ku h0 hb
   have hy := (bK h0).2.1
   have h2 := Ho l hx.2 s lv (c + sxC x) (a + (sxT x).length) (acc ++ [sxD x]) post (AQ h) (by omega) (by omega)
   have h3 := CK (acc := acc) (lv := lv) (a := a) (by rw [eb]; omega) (by rw [eb]; exact h1) h2
   have e1 : ((a + (sxT x ++ jK l).length + 1 : Nat) : Int) = ((a + (sxT x).length + (jK l).length + 1 : Nat) : Int) := by simp; omega
   have e2 : c + ((sxC x + jF l : Nat) : Int) = c + sxC x + jF l := by omega
   rw [e1, e2]
   simpa using h3
theorem Ho : ∀ (l : List Sx), sI l = true -> ∀ (s : ByteArray) (lv c : Int) (a : Nat) (acc : List Dm) (post : List UInt8), At s a (jK l ++ 41 :: post) -> lv + 1 + xZ l <= 41 -> c + jF l <= 400 ->
  FW (pF l) s lv a c acc ⟨.mk 4 0 noS (acc ++ l8 l), ((a + (jK l).length + 1 : Nat) : Int), c + jF l, 0⟩
 | [], hx, s, lv, c, a, acc, post, h, hl, hc => by
   simp only [jK, l8, jF, pF, List.nil_append] at h ⊢
   have := AO (lv := lv) (c := c) (acc := acc) h
   simpa using this
 | x :: l, hx, s, lv, c, a, acc, post, h, hl, hc => by
   simp only [sI, Bool.and_eq_true] at hx
   simp only [jK, xZ, l8, jF, pF] at h hl hc ⊢
   have h : At s a (32 :: (sxT x ++ (jK l ++ 41 :: post))) := by simpa using h
   have hg := Oc h (.inl rfl)
   have h' := (bK h).1
   have h1 := qJ x hx.1 s (lv + 1) c (a + 1) _ h' (Au l post) (by omega) (by omega)
   obtain ⟨b, t, e, hb, hb'⟩ := oZ hx.1
   have h0 : At s (a + 1) (b :: (t ++ (jK l ++ 41 :: post))) := by rw [e] at h'; exact h'
   have eb := ku h0 hb
   have hy := (bK h0).2.1
   have h2 := Ho l hx.2 s lv (c + sxC x) (a + 1 + (sxT x).length) (acc ++ [sxD x]) post (AQ h') (by omega) (by omega)
   have h3 := CK (acc := acc) (lv := lv) (a := a) (by rw [hg, eb]; omega) (by rw [hg, eb]; exact h1) h2
   have e1 : ((a + (32 :: (sxT x ++ jK l)).length + 1 : Nat) : Int) = ((a + 1 + (sxT x).length + (jK l).length + 1 : Nat) : Int) := by simp; omega
   have e2 : c + ((sxC x + jF l : Nat) : Int) = c + sxC x + jF l := by omega
   rw [e1, e2]
   simpa using h3
end
theorem Eb (s : ByteArray) : ∀ (f : Nat) (a c : Int) (acc : List Dm) (r : RR), lJ s f a c acc = some r -> lJ s (f + 1) a c acc = some r
 | 0, _, _, _, _, h => by simp [lJ] at h
 | f + 1, a, c, acc, r, h => by
   rw [lJ] at h ⊢
   split at h
   · rename_i hlt
     rw [if_pos hlt]
     split at h
     · cases h
     · rename_i q hq
       rw [jS (Nat.le_succ f) hq]
       simp only
       split at h
       · rename_i g; rw [if_pos g]; exact h
       · rename_i g; rw [if_neg g]; exact Eb s f _ _ _ _ h
   · rename_i hlt; rw [if_neg hlt]; exact h
theorem vE {s : ByteArray} {f g : Nat} (h : f <= g) {a c : Int} {acc : List Dm} {r : RR} (hr : lJ s f a c acc = some r) : lJ s g a c acc = some r := by
 induction h with
 | refl => exact hr
 | step _ ih => exact Eb s _ _ _ _ _ ih
theorem UK {s : ByteArray} {f g : Nat} (h : f <= g) {r : RR} (hr : tO f s = some r) : tO g s = some r := vE h hr
def JI (f : Nat) (s : ByteArray) (a c : Int) (acc : List Dm) (r : RR) : Prop := lJ s f a c acc = some r
theorem Ig {s : ByteArray} {a c : Int} {acc : List Dm} (h : ¬ a < s.size) : JI 1 s a c acc ⟨acc, 0, 0⟩ := by unfold JI; rw [lJ, if_neg h]
theorem Ji {f g : Nat} {s : ByteArray} {a c a' c' : Int} {acc : List Dm} {d : Dm} {r : RR} (h : a < s.size) (hf : xV f s 1 a c ⟨d, a', c', 0⟩) (hg : JI g s (blk s a') c' (acc ++ [d]) r) : JI (max f g + 1) s a c acc r := by
 unfold JI xV at *
 rw [lJ, if_pos h, jS (Nat.le_max_left f g) hf]
 simp only
 rw [if_neg (by simp), vE (Nat.le_max_right f g) hg]
theorem CZ {s : ByteArray} {x : Sx} {post : List UInt8} (hx : okX x = true) {a : Nat} (h : At s a (sxT x ++ post)) : blk s a = a := by
 obtain ⟨b, t, e, hb, _⟩ := oZ hx
 have h : At s a (b :: (t ++ post)) := by rw [e] at h; exact h
 exact ku h hb
theorem Br (l : List Sx) : stops (jK l) = true := by
 cases l with
 | nil => rfl
 | cons x l => simp only [jK]; rfl
theorem DT : ∀ (l : List Sx), sI l = true -> ∀ (s : ByteArray) (c : Int) (a : Nat) (acc : List Dm), At s a (jK l) -> xZ l <= 40 -> c + jF l <= 400 -> JI (pF l) s (blk s a) c acc ⟨acc ++ l8 l, 0, 0⟩
 | [], _, s, c, a, acc, h, _, _ => by
   simp only [jK, l8, pF, List.append_nil] at h ⊢
   have e := LV h
   rw [e]
   exact Ig (by have := at_nil h; omega)
 | x :: l, hx, s, c, a, acc, h, hl, hc => by
   simp only [sI, Bool.and_eq_true] at hx
   simp only [jK, xZ, l8, jF, pF] at h hl hc ⊢
   have hg := Oc h (.inl rfl)
   have h' := (bK h).1
   have e := CZ hx.1 h'
   have h1 := qJ x hx.1 s 1 c (a + 1) _ h' (Br l) (by omega) (by omega)
   have hlt : ((a + 1 : Nat) : Int) < s.size := by
     obtain ⟨b, t, e, _, _⟩ := oZ hx.1
     rw [e] at h'
     exact (bK h').2.2
   have h2 := DT l hx.2 s (c + sxC x) (a + 1 + (sxT x).length) (acc ++ [sxD x]) (AQ h') (by omega) (by omega)
   rw [hg, e]
   have := Ji hlt h1 h2
   simpa using this
theorem Kk {s : ByteArray} (l : List Sx) (hx : sI l = true) (hs : s.data.toList = lZ l) (hh : xZ l <= 40) (hc : jF l <= 400) (hf : pF l <= 400) : tO 400 s = some ⟨l8 l, 0, 0⟩ := by
 refine vE hf ?_
 show JI (pF l) s (blk s 0) 0 [] ⟨l8 l, 0, 0⟩
 have h : At s 0 (lZ l) := ⟨Nat.zero_le _, hs⟩
 match l, hx, h, hh, hc with
 | [], _, h, _, _ =>
   simp only [lZ, l8, pF] at h ⊢
   have e := LV h
   rw [show (0 : Int) = ((0 : Nat) : Int) from rfl, e]
   exact Ig (by have := at_nil h; omega)
 | x :: l, hx, h, hh, hc =>
   simp only [sI, Bool.and_eq_true] at hx
   simp only [lZ, xZ, l8, jF, pF] at h hh hc ⊢
   have e := CZ hx.1 h
   have h1 := qJ x hx.1 s 1 0 0 _ h (Br l) (by omega) (by omega)
   have hlt : ((0 : Nat) : Int) < s.size := by
     obtain ⟨b, t, e, _, _⟩ := oZ hx.1
     rw [e] at h
     exact (bK h).2.2
   have h2 := DT l hx.2 s (0 + sxC x) (0 + (sxT x).length) ([] ++ [sxD x]) (AQ h) (by omega) (by omega)
   rw [show (0 : Int) = ((0 : Nat) : Int) from rfl, e]
   have := Ji hlt h1 h2
   simpa using this
theorem Vf (a b : ByteArray) : (a ++ b).data.toList = a.data.toList ++ b.data.toList := by
 rw [ByteArray.data_append, Array.toList_append]
def WQ (n : Int) : Bool := okW (Lib.itoa n) && (dI ⟨(Lib.itoa n).toArray⟩ == n) && !isT ⟨(Lib.itoa n).toArray⟩ && !isF ⟨(Lib.itoa n).toArray⟩ && !og ⟨(Lib.itoa n).toArray⟩ && isN ⟨(Lib.itoa n).toArray⟩ && decide ((Lib.itoa n).length <= 3)
theorem Qn : ∀ n, n < 1000 -> WQ ((n : Nat) : Int) = true := by decide +kernel
theorem G5 : ∀ i, i < 50 -> ∀ j, j < 60 -> (Lib.itoa ((60 * i + j : Nat) : Int)).length <= 4 /\ (Lib.itoa (-((60 * i + j : Nat) : Int))).length <= 5 := by decide +kernel
theorem Tw {n : Int} (h0 : 0 <= n) (h1 : n < 3000) : (bT n).size <= 4 := by
 have := (G5 (n.toNat / 60) (by omega) (n.toNat % 60) (by omega)).1
 rw [show 60 * (n.toNat / 60) + n.toNat % 60 = n.toNat by omega, Int.toNat_of_nonneg h0] at this
 exact this
theorem XP {n : Int} (h0 : -3000 < n) (h1 : n < 3000) : (bT n).size <= 5 := by
 by_cases h : 0 <= n
 · have := Tw h h1; omega
 · have := (G5 ((-n).toNat / 60) (by omega) ((-n).toNat % 60) (by omega)).2
   rw [show 60 * ((-n).toNat / 60) + (-n).toNat % 60 = (-n).toNat by omega, Int.toNat_of_nonneg (by omega), Int.neg_neg] at this
   exact this
theorem zC {n : Int} (h0 : 0 <= n) (h1 : n < 1000) : okW (bT n).data.toList = true /\ atD (bT n) = .mk 1 n noS [] /\ (bT n).size <= 3 := by
 have h := Qn n.toNat (by omega)
 rw [Int.toNat_of_nonneg h0] at h
 simp only [WQ, Bool.and_eq_true, Bool.not_eq_true', beq_iff_eq, decide_eq_true_eq] at h
 obtain ⟨⟨⟨⟨⟨⟨a1, a2⟩, a3⟩, a4⟩, a5⟩, a6⟩, a7⟩ := h
 refine ⟨a1, ?_, a7⟩
 have e : bT n = ⟨(Lib.itoa n).toArray⟩ := rfl
 unfold atD
 rw [e, a2, a3, a4, a5, a6]
 simp only [Bool.false_eq_true, if_false, if_true]
 rw [if_neg (by omega)]
end Rd
