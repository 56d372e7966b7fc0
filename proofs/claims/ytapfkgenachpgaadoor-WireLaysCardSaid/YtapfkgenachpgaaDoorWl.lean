/-
  Contracts of wire.P, and of the document's Num.
  No conditions.
-/
import Derived.Test.YtapfkgenachpgaaDoorChecked
import Derived.WalkKit
import Derived.Test.YtapfkgenachpgaaDoorEv9
import Derived.Test.YtapfkgenachpgaaDoorEv4
namespace Go.Proofs.YtapfkgenachpgaaDoor.wl
open Go.Ev Go.RowKit
set_option linter.unusedVariables false
set_option linter.unusedSimpArgs false

theorem mixed : Tryd.prog.follows .mixedOrders = true := Checked.mixed Tryd.checked

/-- bytes -/
def bs (l : List Int) : ByteArray := ⟨(l.map fun n => UInt8.ofNat n.toNat).toArray⟩
theorem bs_append (l m : List Int) : bs l ++ bs m = bs (l ++ m) := by
  apply ByteArray.ext
  simp [bs]
theorem bs_size (l : List Int) : (bs l).size = l.length := by
  show ((l.map fun n => UInt8.ofNat n.toNat).toArray).size = l.length
  simp
/-- a number's bytes -/
def pbM (m : Int) : List Int :=
  if m < 64 then [m] else if m < 16384 then [m / 256 + 64, m % 256]
  else if m < 1073741824 then [m / 16777216 + 128, m / 65536 % 256, m / 256 % 256, m % 256]
  else [m / 72057594037927936 + 192, m / 281474976710656 % 256, m / 1099511627776 % 256, m / 4294967296 % 256, m / 16777216 % 256, m / 65536 % 256, m / 256 % 256, m % 256]
def pbL (n : Int) : List Int := pbM (n % 4611686018427387904)
theorem pbL_len (n : Int) : 1 ≤ (pbL n).length ∧ (pbL n).length ≤ 8 := by
  unfold pbL pbM
  repeat' split
  all_goals simp
def wlTab : TabF := fun i l => if i = 140 then encB (bs (pbL (l.getD 0 0))) else if i = 141 then ((pbL (l.getD 0 0)).length : Int) else 0
theorem tab_s (n : Int) : decS (wlTab 140 [n]) = bs (pbL n) := by
  show decS (encB (bs (pbL n))) = _
  exact decS_enc _
theorem tab_n (n : Int) : wlTab 141 [n] = ((pbL n).length : Int) := rfl

theorem eqFs {σ : Sig} {i j id : Nat} {k : IntKind} (h : evalS σ (.sop (.fs id) [.symi k j]) = some (den σ (.syms i))) : σ.sval i = decS (σ.tab id [σ.ival j]) := by
  simp only [evalS, List.map, den, sopA, numS, Option.some.injEq, AVal.str.injEq] at h
  exact h.symm
theorem eqCat {σ : Sig} {i : Nat} {a b : AVal} {x y : ByteArray} (h : evalS σ (.sop .cat [a, b]) = some (den σ (.syms i))) (ha : den σ a = .str x) (hb : den σ b = .str y) : σ.sval i = x ++ y := by
  simp only [evalS, List.map, ha, hb] at h
  simp only [den, sopA, Option.some.injEq, AVal.str.injEq] at h
  exact h.symm
theorem eqRow {σ : Sig} {i : Nat} {a : AVal} {n : Int} (h : evalS σ (.sop (.row [.some .u8]) [a]) = some (den σ (.syms i))) (ha : den σ a = .int .u8 n) (h0 : 0 ≤ n) (h1 : n < 256) : σ.sval i = bs [n] := by
  simp only [evalS, List.map, ha] at h
  simp only [den, sopA, rowB, encK, csz, beB, List.nil_append, List.append_nil, Option.some.injEq, AVal.str.injEq] at h
  rw [← h]
  simp only [bs, List.map_cons, List.map_nil]
  congr 3
  have : (n % ((2 ^ (8 * 1) : Nat) : Int)).toNat % 256 = n.toNat := by omega
  rw [this]
theorem eqText {σ : Sig} {i : Nat} {l : List AVal} (h : evalS σ (.text l) = some (den σ (.syms i))) : σ.sval i = ⟨(l.map fun a => byteS (den σ a)).toArray⟩ := by
  simp only [evalS, den, Option.some.injEq, AVal.str.injEq] at h
  exact h.symm
theorem and_mask {n : Int} (h0 : 0 ≤ n) (h1 : n < 18446744073709551616) : IntKind.u64.wrap ((BitVec.ofInt IntKind.u64.bits n &&& BitVec.ofInt IntKind.u64.bits 4611686018427387903).toNat : Int) = n % 4611686018427387904 := by
  show IntKind.u64.wrap ((BitVec.ofInt 64 n &&& BitVec.ofInt 64 4611686018427387903 : BitVec 64).toNat : Int) = _
  rw [wr_u64, BitVec.toNat_and, BitVec.toNat_ofInt, BitVec.toNat_ofInt]
  have e1 : ((4611686018427387903 : Int) % (2 ^ 64 : Nat)).toNat = 2 ^ 62 - 1 := by decide
  rw [e1, Nat.and_two_pow_sub_one_eq_mod]
  omega
theorem or_lit {x c : Int} (i s : Nat) (hc : c = ((2 ^ i * s : Nat) : Int)) (h0 : 0 ≤ x) (h1 : x < ((2 ^ i : Nat) : Int)) (h64 : 2 ^ i * s + 2 ^ i ≤ 18446744073709551616) : IntKind.u64.wrap ((BitVec.ofInt IntKind.u64.bits x ||| BitVec.ofInt IntKind.u64.bits c).toNat : Int) = x + c := by
  show IntKind.u64.wrap ((BitVec.ofInt 64 x ||| BitVec.ofInt 64 c : BitVec 64).toNat : Int) = _
  rw [wr_u64, BitVec.toNat_or, BitVec.toNat_ofInt, BitVec.toNat_ofInt]
  have e1 : (x % (2 ^ 64 : Nat)).toNat = x.toNat := by omega
  have e2 : (c % (2 ^ 64 : Nat)).toNat = 2 ^ i * s := by omega
  rw [e1, e2, Nat.or_comm, ← Nat.two_pow_add_eq_or_of_lt (by omega : x.toNat < 2 ^ i)]
  omega

def wlK9 : List (Option IntKind) := [some .u64, some .i64, none]
def wlS9 : Shape := ⟨argT 0 [.row 0, .symi .u64 0], []⟩
def wlE9 : Shape := ⟨[(4, .lsl 0 1 true (.int .i64 0) (.symi .i64 6))], [.lst (.syms 4) (.symi .i64 6) [some .u8] 5]⟩
def wlX : List AVal := [.symi .i64 1, .syms 2]
def sf9 : SymF :=
  { f := 9, m := 3, ins := wlK9, args := [.row 0, .symi .u64 0], pre := [], pcs := [.bin .leq (.int .i64 0) (.symi .i64 1), .bin .leq (.symi .i64 1) (.int .i64 1000000)], G := [.sop (.fs 140) [.symi .u64 0], .sop .cat [.syms 2, .syms 3], .fn 141 .i64 [.symi .u64 0], .bin .add (.symi .i64 1) (.symi .i64 5)], v := .lsl 0 1 true (.int .i64 0) (.symi .i64 6), post := wlE9.heap, xs := wlX }
def wlK11 : List (Option IntKind) := [some .u64]
def wlS11 : Shape := ⟨argT 0 [.symi .u64 0], []⟩
def wlE11 : Shape := ⟨[(2, .syms 1)], []⟩
def sf11 : SymF := { f := 11, m := 1, ins := wlK11, args := [.symi .u64 0], pre := [], pcs := [], G := [.sop (.fs 140) [.symi .u64 0]], v := .syms 1, post := [] }
def wlLst : List (Nat × List (Option IntKind)) := [(5, [some .u8])]
def wlStr : List (Nat × AVal × List (Option IntKind)) := [(0, .syms 2, [some .u8])]
def wlKA : List (Option IntKind) := [some .u64, some .i64, none, none]
def wlS0 : Shape := ⟨argT 0 [.row 1, .symi .u64 0, .syms 3], []⟩
def wlS1 : Shape := ⟨[(0, .row 0), (1, .symi .u64 0), (2, .syms 4), (7, .syms 2), (8, .symi .i64 3)], []⟩
def wlK1 : List (Option IntKind) := [some .u64, some .i64, none, some .i64, none]
def wlSe : Shape := ⟨[(0, .row 0), (1, .symi .u64 0), (2, .syms 3), (7, .syms 2)], []⟩
def wlSE : Shape := ⟨[(6, .bool true)], []⟩
set_option maxRecDepth 100000 in
def wl9G : List SDef := [.bin .and (.symi .u64 0) (.int .u64 4611686018427387903),
  .bin .shr (.symi .u64 3) (.int .i64 6),
  .bin .gtr (.symi .u64 4) (.int .u64 0),
  .bin .shr (.symi .u64 3) (.int .i64 14),
  .bin .gtr (.symi .u64 6) (.int .u64 0),
  .bin .shr (.symi .u64 3) (.int .i64 30),
  .bin .gtr (.symi .u64 8) (.int .u64 0),
  .bin .or (.symi .u64 3) (.int .u64 13835058055282163712),
  .bin .shr (.symi .u64 10) (.int .i64 56),
  .conv .u8 (.symi .u64 11),
  .sop (.row [.some .u8]) [.symi .u8 12],
  .sop .cat [.syms 2, .syms 13],
  .bin .add (.symi .i64 1) (.int .i64 1),
  .bin .leq (.int .i64 0) (.symi .i64 15),
  .bin .leq (.symi .i64 15) (.int .i64 140737488355328),
  .bin .shr (.symi .u64 10) (.int .i64 48),
  .conv .u8 (.symi .u64 18),
  .sop (.row [.some .u8]) [.symi .u8 19],
  .sop .cat [.syms 14, .syms 20],
  .bin .add (.symi .i64 15) (.int .i64 1),
  .bin .leq (.int .i64 0) (.symi .i64 22),
  .bin .leq (.symi .i64 22) (.int .i64 140737488355328),
  .bin .shr (.symi .u64 10) (.int .i64 40),
  .conv .u8 (.symi .u64 25),
  .sop (.row [.some .u8]) [.symi .u8 26],
  .sop .cat [.syms 21, .syms 27],
  .bin .add (.symi .i64 22) (.int .i64 1),
  .bin .leq (.int .i64 0) (.symi .i64 29),
  .bin .leq (.symi .i64 29) (.int .i64 140737488355328),
  .bin .shr (.symi .u64 10) (.int .i64 32),
  .conv .u8 (.symi .u64 32),
  .sop (.row [.some .u8]) [.symi .u8 33],
  .sop .cat [.syms 28, .syms 34],
  .bin .add (.symi .i64 29) (.int .i64 1),
  .bin .leq (.int .i64 0) (.symi .i64 36),
  .bin .leq (.symi .i64 36) (.int .i64 140737488355328),
  .bin .shr (.symi .u64 10) (.int .i64 24),
  .conv .u8 (.symi .u64 39),
  .sop (.row [.some .u8]) [.symi .u8 40],
  .sop .cat [.syms 35, .syms 41],
  .bin .add (.symi .i64 36) (.int .i64 1),
  .bin .leq (.int .i64 0) (.symi .i64 43),
  .bin .leq (.symi .i64 43) (.int .i64 140737488355328),
  .bin .shr (.symi .u64 10) (.int .i64 16),
  .conv .u8 (.symi .u64 46),
  .sop (.row [.some .u8]) [.symi .u8 47],
  .sop .cat [.syms 42, .syms 48],
  .bin .add (.symi .i64 43) (.int .i64 1),
  .bin .leq (.int .i64 0) (.symi .i64 50),
  .bin .leq (.symi .i64 50) (.int .i64 140737488355328),
  .bin .shr (.symi .u64 10) (.int .i64 8),
  .conv .u8 (.symi .u64 53),
  .sop (.row [.some .u8]) [.symi .u8 54],
  .sop .cat [.syms 49, .syms 55],
  .bin .add (.symi .i64 50) (.int .i64 1),
  .bin .leq (.int .i64 0) (.symi .i64 57),
  .bin .leq (.symi .i64 57) (.int .i64 140737488355328),
  .bin .shr (.symi .u64 10) (.int .i64 0),
  .conv .u8 (.symi .u64 60),
  .sop (.row [.some .u8]) [.symi .u8 61],
  .sop .cat [.syms 56, .syms 62],
  .bin .add (.symi .i64 57) (.int .i64 1),
  .bin .leq (.int .i64 0) (.symi .i64 64),
  .bin .leq (.symi .i64 64) (.int .i64 140737488355328),
  .bin .or (.symi .u64 3) (.int .u64 2147483648),
  .bin .shr (.symi .u64 67) (.int .i64 24),
  .conv .u8 (.symi .u64 68),
  .sop (.row [.some .u8]) [.symi .u8 69],
  .sop .cat [.syms 2, .syms 70],
  .bin .shr (.symi .u64 67) (.int .i64 16),
  .conv .u8 (.symi .u64 72),
  .sop (.row [.some .u8]) [.symi .u8 73],
  .sop .cat [.syms 71, .syms 74],
  .bin .shr (.symi .u64 67) (.int .i64 8),
  .conv .u8 (.symi .u64 76),
  .sop (.row [.some .u8]) [.symi .u8 77],
  .sop .cat [.syms 75, .syms 78],
  .bin .shr (.symi .u64 67) (.int .i64 0),
  .conv .u8 (.symi .u64 80),
  .sop (.row [.some .u8]) [.symi .u8 81],
  .sop .cat [.syms 79, .syms 82],
  .bin .or (.symi .u64 3) (.int .u64 16384),
  .bin .shr (.symi .u64 84) (.int .i64 8),
  .conv .u8 (.symi .u64 85),
  .sop (.row [.some .u8]) [.symi .u8 86],
  .sop .cat [.syms 2, .syms 87],
  .bin .shr (.symi .u64 84) (.int .i64 0),
  .conv .u8 (.symi .u64 89),
  .sop (.row [.some .u8]) [.symi .u8 90],
  .sop .cat [.syms 88, .syms 91],
  .bin .or (.symi .u64 3) (.int .u64 0),
  .bin .shr (.symi .u64 93) (.int .i64 0),
  .conv .u8 (.symi .u64 94),
  .sop (.row [.some .u8]) [.symi .u8 95],
  .sop .cat [.syms 2, .syms 96]]
set_option maxRecDepth 100000 in
def wl9T : LT := .n (.n (.n (.n (.n (.n (.n (.e) 1761577 3 (.bin .and (.symi .u64 0) (.int .u64 4611686018427387903)) (.e)) 18352935 95 (.conv .u8 (.symi .u64 94)) (.e)) 37616154 23 (.bin .leq (.int .i64 0) (.symi .i64 22)) (.n (.n (.e) 41108877 59 (.bin .leq (.symi .i64 57) (.int .i64 140737488355328)) (.e)) 47051472 27 (.sop (.row [.some .u8]) [.symi .u8 26]) (.e))) 48106073 50 (.bin .add (.symi .i64 43) (.int .i64 1)) (.n (.n (.n (.e) 49042881 84 (.bin .or (.symi .u64 3) (.int .u64 16384)) (.e)) 59261904 12 (.conv .u8 (.symi .u64 11)) (.e)) 67586168 38 (.bin .leq (.symi .i64 36) (.int .i64 140737488355328)) (.n (.n (.e) 74583364 29 (.bin .add (.symi .i64 22) (.int .i64 1)) (.e)) 74784739 33 (.conv .u8 (.symi .u64 32)) (.e)))) 90307574 54 (.conv .u8 (.symi .u64 53)) (.n (.n (.n (.n (.e) 94063459 17 (.bin .leq (.symi .i64 15) (.int .i64 140737488355328)) (.e)) 101060655 15 (.bin .add (.symi .i64 1) (.int .i64 1)) (.e)) 140698239 42 (.sop .cat [.syms 35, .syms 41]) (.n (.n (.e) 142313152 34 (.sop (.row [.some .u8]) [.symi .u8 33]) (.e)) 165091981 86 (.conv .u8 (.symi .u64 85)) (.e))) 202154507 97 (.sop .cat [.syms 2, .syms 96]) (.n (.n (.n (.e) 237574832 41 (.sop (.row [.some .u8]) [.symi .u8 40]) (.e)) 243831287 58 (.bin .leq (.int .i64 0) (.symi .i64 57)) (.e)) 293607546 30 (.bin .leq (.int .i64 0) (.symi .i64 29)) (.n (.n (.e) 302711058 67 (.bin .or (.symi .u64 3) (.int .u64 2147483648)) (.e)) 303011268 93 (.bin .or (.symi .u64 3) (.int .u64 0)) (.e))))) 303311499 4 (.bin .shr (.symi .u64 3) (.int .i64 6)) (.n (.n (.n (.n (.n (.e) 303711779 6 (.bin .shr (.symi .u64 3) (.int .i64 14)) (.e)) 304512339 8 (.bin .shr (.symi .u64 3) (.int .i64 30)) (.e)) 308415048 10 (.bin .or (.symi .u64 3) (.int .u64 13835058055282163712)) (.n (.n (.e) 311831027 77 (.conv .u8 (.symi .u64 76)) (.e)) 312278088 35 (.sop .cat [.syms 28, .syms 34]) (.e))) 324579719 80 (.bin .shr (.symi .u64 67) (.int .i64 0)) (.n (.n (.n (.e) 324979999 76 (.bin .shr (.symi .u64 67) (.int .i64 8)) (.e)) 325380279 72 (.bin .shr (.symi .u64 67) (.int .i64 16)) (.e)) 325780559 68 (.bin .shr (.symi .u64 67) (.int .i64 24)) (.n (.n (.e) 332836512 48 (.sop (.row [.some .u8]) [.symi .u8 47]) (.e)) 379882230 74 (.sop (.row [.some .u8]) [.symi .u8 73]) (.e)))) 388368488 64 (.bin .add (.symi .i64 57) (.int .i64 1)) (.n (.n (.n (.n (.e) 403405089 87 (.sop (.row [.some .u8]) [.symi .u8 86]) (.e)) 404011634 5 (.bin .gtr (.symi .u64 4) (.int .u64 0)) (.e)) 407848583 52 (.bin .leq (.symi .i64 50) (.int .i64 140737488355328)) (.n (.n (.e) 414845779 43 (.bin .add (.symi .i64 36) (.int .i64 1)) (.e)) 427524403 26 (.conv .u8 (.symi .u64 25)) (.e))) 428098192 55 (.sop (.row [.some .u8]) [.symi .u8 54]) (.n (.n (.n (.e) 434325874 31 (.bin .leq (.symi .i64 29) (.int .i64 140737488355328)) (.e)) 441323070 22 (.bin .add (.symi .i64 15) (.int .i64 1)) (.e)) 443047238 47 (.conv .u8 (.symi .u64 46)) (.n (.n (.e) 483857937 28 (.sop .cat [.syms 21, .syms 27]) (.e)) 489888253 92 (.sop .cat [.syms 88, .syms 91]) (.e)))))) 499822679 65 (.bin .leq (.int .i64 0) (.symi .i64 64)) (.n (.n (.n (.n (.n (.n (.e) 523359872 62 (.sop (.row [.some .u8]) [.symi .u8 61]) (.e)) 549598938 37 (.bin .leq (.int .i64 0) (.symi .i64 36)) (.e)) 561570382 69 (.conv .u8 (.symi .u64 68)) (.n (.n (.e) 577093217 90 (.conv .u8 (.symi .u64 89)) (.e)) 606012240 7 (.bin .gtr (.symi .u64 6) (.int .u64 0)) (.e))) 642144411 82 (.sop (.row [.some .u8]) [.symi .u8 81]) (.n (.n (.n (.e) 655437786 21 (.sop .cat [.syms 14, .syms 20]) (.e)) 699700519 63 (.sop .cat [.syms 56, .syms 62]) (.e)) 710490916 83 (.sop .cat [.syms 79, .syms 82]) (.n (.n (.e) 723832263 81 (.conv .u8 (.symi .u64 80)) (.e)) 748110998 66 (.bin .leq (.symi .i64 64) (.int .i64 140737488355328)) (.e)))) 755108194 57 (.bin .add (.symi .i64 50) (.int .i64 1)) (.n (.n (.n (.n (.e) 774588289 45 (.bin .leq (.symi .i64 43) (.int .i64 140737488355328)) (.e)) 780264067 19 (.conv .u8 (.symi .u64 18)) (.e)) 781585485 36 (.bin .add (.symi .i64 29) (.int .i64 1)) (.n (.n (.e) 785622053 70 (.sop (.row [.some .u8]) [.symi .u8 69]) (.e)) 795786902 40 (.conv .u8 (.symi .u64 39)) (.e))) 801065580 24 (.bin .leq (.symi .i64 22) (.int .i64 140737488355328)) (.n (.n (.n (.e) 803103943 94 (.bin .shr (.symi .u64 93) (.int .i64 0)) (.e)) 805590330 44 (.bin .leq (.int .i64 0) (.symi .i64 43)) (.e)) 808012846 9 (.bin .gtr (.symi .u64 8) (.int .u64 0)) (.n (.n (.e) 808536544 79 (.sop .cat [.syms 75, .syms 78]) (.e)) 811309737 61 (.conv .u8 (.symi .u64 60)) (.e))))) 832667771 96 (.sop (.row [.some .u8]) [.symi .u8 95]) (.n (.n (.n (.n (.n (.e) 852070954 88 (.sop .cat [.syms 2, .syms 87]) (.e)) 855366589 16 (.bin .leq (.int .i64 0) (.symi .i64 15)) (.e)) 871280368 56 (.sop .cat [.syms 49, .syms 55]) (.n (.n (.e) 886644435 71 (.sop .cat [.syms 2, .syms 70]) (.e)) 906582172 75 (.sop .cat [.syms 71, .syms 74]) (.e))) 930269939 13 (.sop (.row [.some .u8]) [.symi .u8 12]) (.n (.n (.n (.e) 967843043 89 (.bin .shr (.symi .u64 84) (.int .i64 0)) (.e)) 968243323 85 (.bin .shr (.symi .u64 84) (.int .i64 8)) (.e)) 973571618 73 (.conv .u8 (.symi .u64 72)) (.n (.n (.e) 1010013410 60 (.bin .shr (.symi .u64 10) (.int .i64 0)) (.e)) 1010413690 53 (.bin .shr (.symi .u64 10) (.int .i64 8)) (.e)))) 1010813970 46 (.bin .shr (.symi .u64 10) (.int .i64 16)) (.n (.n (.n (.n (.e) 1011214250 39 (.bin .shr (.symi .u64 10) (.int .i64 24)) (.e)) 1011614530 32 (.bin .shr (.symi .u64 10) (.int .i64 32)) (.e)) 1012014810 25 (.bin .shr (.symi .u64 10) (.int .i64 40)) (.n (.n (.e) 1012415090 18 (.bin .shr (.symi .u64 10) (.int .i64 48)) (.e)) 1012815370 11 (.bin .shr (.symi .u64 10) (.int .i64 56)) (.e))) 1025531619 20 (.sop (.row [.some .u8]) [.symi .u8 19]) (.n (.n (.n (.e) 1042860217 49 (.sop .cat [.syms 42, .syms 48]) (.e)) 1047884234 78 (.sop (.row [.some .u8]) [.symi .u8 77]) (.e)) 1061581722 51 (.bin .leq (.int .i64 0) (.symi .i64 50)) (.n (.n (.e) 1065728567 14 (.sop .cat [.syms 2, .syms 13]) (.e)) 1071407093 91 (.sop (.row [.some .u8]) [.symi .u8 90]) (.e))))))
set_option maxRecDepth 100000 in
def wl9W : Sw := .node 5 (.node 7 (.node 9 (.run (.node 16 (.node 17 (.node 23 (.node 24 (.node 30 (.node 31 (.node 37 (.node 38 (.node 44 (.node 45 (.node 51 (.node 52 (.node 58 (.node 59 (.node 65 (.node 66 (.leaf .ret wlE9 [(15, 0)] [(6, .symi .i64 64), (4, .syms 63), (6, .symi .i64 64)] []) (.dead)) (.dead)) (.dead)) (.dead)) (.dead)) (.dead)) (.dead)) (.dead)) (.dead)) (.dead)) (.dead)) (.dead)) (.dead)) (.dead)) (.dead)) (.dead))) (.run (.node 16 (.node 17 (.node 23 (.node 24 (.node 30 (.node 31 (.node 37 (.node 38 (.leaf .ret wlE9 [(7, 0)] [(6, .symi .i64 36), (4, .syms 83), (6, .symi .i64 36)] []) (.dead)) (.dead)) (.dead)) (.dead)) (.dead)) (.dead)) (.dead)) (.dead)))) (.run (.node 16 (.node 17 (.node 23 (.node 24 (.leaf .ret wlE9 [(3, 0)] [(6, .symi .i64 22), (4, .syms 92), (6, .symi .i64 22)] []) (.dead)) (.dead)) (.dead)) (.dead)))) (.run (.node 16 (.node 17 (.leaf .ret wlE9 [(1, 0)] [(6, .symi .i64 15), (4, .syms 97), (6, .symi .i64 15)] []) (.dead)) (.dead)))
set_option maxRecDepth 100000 in
def wl9Kd : KdT := .n (.n (.n (.n (.n (.n (.n .e none .e) none (.n .e (some .u8) .e)) (some .i64) (.n (.n .e none .e) (some .u8) .e)) none (.n (.n (.n .e none .e) none .e) none (.n (.n .e none .e) none .e))) (some .u64) (.n (.n (.n (.n .e (some .u64) .e) none .e) (some .u8) (.n (.n .e none .e) none .e)) none (.n (.n (.n .e none .e) (some .i64) .e) none (.n (.n .e none .e) none .e)))) (some .i64) (.n (.n (.n (.n (.n .e none .e) (some .u8) (.n .e none .e)) none (.n (.n .e (some .u8) .e) none .e)) none (.n (.n (.n .e (some .u8) .e) none .e) none (.n (.n .e none .e) (some .i64) .e))) none (.n (.n (.n (.n .e (some .u8) .e) none .e) none (.n (.n .e none .e) none .e)) none (.n (.n (.n .e (some .u8) .e) none .e) (some .i64) (.n (.n .e (some .u64) .e) (some .u8) .e))))) (some .u64) (.n (.n (.n (.n (.n (.n .e (some .i64) .e) none (.n .e none .e)) none (.n (.n .e none .e) none .e)) none (.n (.n (.n .e none .e) (some .u8) .e) none (.n (.n .e none .e) none .e))) none (.n (.n (.n (.n .e none .e) (some .i64) .e) none (.n (.n .e (some .u64) .e) none .e)) (some .u8) (.n (.n (.n .e none .e) none .e) none (.n (.n .e none .e) none .e)))) none (.n (.n (.n (.n (.n .e none .e) none .e) none (.n (.n .e none .e) (some .i64) .e)) (some .u64) (.n (.n (.n .e none .e) none .e) (some .u8) (.n (.n .e (some .u8) .e) none .e))) none (.n (.n (.n (.n .e none .e) none .e) (some .i64) (.n (.n .e (some .u8) .e) (some .u8) .e)) none (.n (.n (.n .e none .e) none .e) none (.n (.n .e none .e) none .e)))))

def wl9Inv (σ : Sig) : Prop := StrsOk σ wlStr
def wl9X : Ing := { m := 3, ins := wlK9, G := wl9G, T := wl9T, tab := wlTab, rows := [⟨.symi .i64 1, []⟩], inv := wl9Inv, strs := wlStr, strok := fun _ h => h, lsts := wlLst, kb := 98, kt := wl9Kd }
theorem wl9_ok : okG wl9G 3 = true := by kernel_rfl
theorem wl9_lt : okLT 3 wl9G wl9T = true := by kernel_rfl
theorem wl9_seg : SegOkI Tryd.prog wlTab 42 (flatC (bodyOf Tryd.f9)) wlS9 wl9X wl9W where
  lt := wl9_lt
  ok := wl9_ok
  hook := fun F => no_hooks rfl F
  n0 := rfl
  id := by kernel_rfl
  reck := by kernel_rfl
  tab := rfl
  cuts := rfl
  kt := by kernel_rfl
set_option maxRecDepth 100000 in
def wl11G : List SDef := [.bin .rem (.symi .u64 0) (.int .u64 4611686018427387904),
  .bin .lss (.symi .u64 1) (.int .u64 64),
  .bin .lss (.symi .u64 1) (.int .u64 16384),
  .bin .lss (.symi .u64 1) (.int .u64 1073741824),
  .bin .rem (.symi .u64 1) (.int .u64 256),
  .conv .u8 (.symi .u64 5),
  .text [.symi .u8 6],
  .bin .quo (.symi .u64 1) (.int .u64 256),
  .bin .add (.symi .u8 6) (.int .u8 0),
  .text [.symi .u8 9],
  .text [],
  .sop .cat [.syms 10, .syms 11],
  .sop .len [.syms 12],
  .bin .leq (.symi .i64 13) (.int .i64 9223372036854775807),
  .bin .rem (.symi .u64 8) (.int .u64 256),
  .conv .u8 (.symi .u64 15),
  .text [.symi .u8 16],
  .text [.symi .u8 16, .symi .u8 6],
  .bin .quo (.symi .u64 8) (.int .u64 256),
  .bin .add (.symi .u8 16) (.int .u8 64),
  .text [.symi .u8 20],
  .text [.symi .u8 20, .symi .u8 6],
  .sop .cat [.syms 21, .syms 7],
  .sop .len [.syms 23],
  .bin .leq (.symi .i64 24) (.int .i64 9223372036854775807),
  .bin .rem (.symi .u64 19) (.int .u64 256),
  .conv .u8 (.symi .u64 26),
  .text [.symi .u8 27],
  .text [.symi .u8 27, .symi .u8 16, .symi .u8 6],
  .bin .quo (.symi .u64 19) (.int .u64 256),
  .bin .rem (.symi .u64 30) (.int .u64 256),
  .conv .u8 (.symi .u64 31),
  .text [.symi .u8 32],
  .text [.symi .u8 32, .symi .u8 27, .symi .u8 16, .symi .u8 6],
  .bin .quo (.symi .u64 30) (.int .u64 256),
  .bin .add (.symi .u8 32) (.int .u8 128),
  .text [.symi .u8 36],
  .text [.symi .u8 36, .symi .u8 27, .symi .u8 16, .symi .u8 6],
  .sop .cat [.syms 37, .syms 29],
  .sop .len [.syms 39],
  .bin .leq (.symi .i64 40) (.int .i64 9223372036854775807),
  .bin .rem (.symi .u64 35) (.int .u64 256),
  .conv .u8 (.symi .u64 42),
  .text [.symi .u8 43],
  .text [.symi .u8 43, .symi .u8 32, .symi .u8 27, .symi .u8 16, .symi .u8 6],
  .bin .quo (.symi .u64 35) (.int .u64 256),
  .bin .rem (.symi .u64 46) (.int .u64 256),
  .conv .u8 (.symi .u64 47),
  .text [.symi .u8 48],
  .text [.symi .u8 48, .symi .u8 43, .symi .u8 32, .symi .u8 27, .symi .u8 16, .symi .u8 6],
  .bin .quo (.symi .u64 46) (.int .u64 256),
  .bin .rem (.symi .u64 51) (.int .u64 256),
  .conv .u8 (.symi .u64 52),
  .text [.symi .u8 53],
  .text [.symi .u8 53, .symi .u8 48, .symi .u8 43, .symi .u8 32, .symi .u8 27, .symi .u8 16, .symi .u8 6],
  .bin .quo (.symi .u64 51) (.int .u64 256),
  .bin .rem (.symi .u64 56) (.int .u64 256),
  .conv .u8 (.symi .u64 57),
  .text [.symi .u8 58],
  .text [.symi .u8 58, .symi .u8 53, .symi .u8 48, .symi .u8 43, .symi .u8 32, .symi .u8 27, .symi .u8 16, .symi .u8 6],
  .bin .quo (.symi .u64 56) (.int .u64 256),
  .bin .add (.symi .u8 58) (.int .u8 192),
  .text [.symi .u8 62],
  .text [.symi .u8 62, .symi .u8 53, .symi .u8 48, .symi .u8 43, .symi .u8 32, .symi .u8 27, .symi .u8 16, .symi .u8 6],
  .sop .cat [.syms 63, .syms 55],
  .sop .len [.syms 65],
  .bin .leq (.symi .i64 66) (.int .i64 9223372036854775807)]
set_option maxRecDepth 100000 in
def wl11T : LT := .n (.n (.n (.n (.n (.n (.n (.e) 168 11 (.text []) (.e)) 1811605 1 (.bin .rem (.symi .u64 0) (.int .u64 4611686018427387904)) (.e)) 17199012 36 (.bin .add (.symi .u8 32) (.int .u8 128)) (.n (.e) 19242349 23 (.sop .cat [.syms 21, .syms 7]) (.e))) 31046002 43 (.conv .u8 (.symi .u64 42)) (.n (.n (.e) 69265961 10 (.text [.symi .u8 9]) (.e)) 70797105 40 (.sop .len [.syms 39]) (.n (.e) 92311607 44 (.text [.symi .u8 43]) (.e)))) 100860606 4 (.bin .lss (.symi .u64 1) (.int .u64 1073741824)) (.n (.n (.n (.e) 104212951 2 (.bin .lss (.symi .u64 1) (.int .u64 64)) (.e)) 113819601 8 (.bin .quo (.symi .u64 1) (.int .u64 256)) (.n (.e) 113819608 5 (.bin .rem (.symi .u64 1) (.int .u64 256)) (.e))) 117990451 66 (.sop .len [.syms 65]) (.n (.n (.e) 207789165 28 (.text [.symi .u8 27]) (.e)) 208116581 60 (.text [.symi .u8 58, .symi .u8 53, .symi .u8 48, .symi .u8 43, .symi .u8 32, .symi .u8 27, .symi .u8 16, .symi .u8 6]) (.n (.e) 227131936 67 (.bin .leq (.symi .i64 66) (.int .i64 9223372036854775807)) (.e))))) 242825012 14 (.bin .leq (.symi .i64 13) (.int .i64 9223372036854775807)) (.n (.n (.n (.n (.n (.e) 277050767 37 (.text [.symi .u8 36]) (.e)) 280086518 25 (.bin .leq (.symi .i64 24) (.int .i64 9223372036854775807)) (.e)) 283980971 45 (.text [.symi .u8 43, .symi .u8 32, .symi .u8 27, .symi .u8 16, .symi .u8 6]) (.n (.e) 288573590 54 (.text [.symi .u8 53]) (.e))) 300127131 61 (.bin .quo (.symi .u64 56) (.int .u64 256)) (.n (.n (.e) 300127138 57 (.bin .rem (.symi .u64 56) (.int .u64 256)) (.e)) 326604422 46 (.bin .quo (.symi .u64 35) (.int .u64 256)) (.n (.e) 326604429 42 (.bin .rem (.symi .u64 35) (.int .u64 256)) (.e)))) 352551382 34 (.text [.symi .u8 32, .symi .u8 27, .symi .u8 16, .symi .u8 6]) (.n (.n (.n (.e) 357835192 63 (.text [.symi .u8 62]) (.e)) 363865928 51 (.bin .quo (.symi .u64 46) (.int .u64 256)) (.n (.e) 363865935 47 (.bin .rem (.symi .u64 46) (.int .u64 256)) (.e))) 392408918 22 (.text [.symi .u8 20, .symi .u8 6]) (.n (.n (.e) 392528325 21 (.text [.symi .u8 20]) (.e)) 461836512 55 (.text [.symi .u8 53, .symi .u8 48, .symi .u8 43, .symi .u8 32, .symi .u8 27, .symi .u8 16, .symi .u8 6]) (.n (.e) 471263140 16 (.conv .u8 (.symi .u64 15)) (.e)))))) 498925476 62 (.bin .add (.symi .u8 58) (.int .u8 192)) (.n (.n (.n (.n (.n (.n (.e) 502308810 58 (.conv .u8 (.symi .u64 57)) (.e)) 515001877 6 (.conv .u8 (.symi .u64 5)) (.e)) 530524712 27 (.conv .u8 (.symi .u64 26)) (.n (.e) 545475578 20 (.bin .add (.symi .u8 16) (.int .u8 64)) (.e))) 546047547 48 (.conv .u8 (.symi .u64 47)) (.n (.n (.e) 606012135 9 (.bin .add (.symi .u8 6) (.int .u8 0)) (.e)) 619923722 24 (.sop .len [.syms 23]) (.n (.e) 625437975 39 (.sop .cat [.syms 37, .syms 29]) (.e)))) 637329517 12 (.sop .cat [.syms 10, .syms 11]) (.n (.n (.n (.e) 716118105 64 (.text [.symi .u8 62, .symi .u8 53, .symi .u8 48, .symi .u8 43, .symi .u8 32, .symi .u8 27, .symi .u8 16, .symi .u8 6]) (.e)) 727313512 49 (.text [.symi .u8 48]) (.n (.e) 762006645 7 (.text [.symi .u8 6]) (.e))) 820821722 19 (.bin .quo (.symi .u64 8) (.int .u64 256)) (.n (.n (.e) 820821729 15 (.bin .rem (.symi .u64 8) (.int .u64 256)) (.e)) 822349539 41 (.bin .leq (.symi .i64 40) (.int .i64 9223372036854775807)) (.n (.e) 842791070 33 (.text [.symi .u8 32]) (.e))))) 858083228 30 (.bin .quo (.symi .u64 19) (.int .u64 256)) (.n (.n (.n (.n (.n (.e) 858083235 26 (.bin .rem (.symi .u64 19) (.int .u64 256)) (.e)) 860552906 38 (.text [.symi .u8 36, .symi .u8 27, .symi .u8 16, .symi .u8 6]) (.e)) 868867443 56 (.bin .quo (.symi .u64 51) (.int .u64 256)) (.n (.e) 868867450 52 (.bin .rem (.symi .u64 51) (.int .u64 256)) (.e))) 895344734 35 (.bin .quo (.symi .u64 30) (.int .u64 256)) (.n (.n (.e) 895344741 31 (.bin .rem (.symi .u64 30) (.int .u64 256)) (.e)) 919380479 29 (.text [.symi .u8 27, .symi .u8 16, .symi .u8 6]) (.n (.e) 920784151 3 (.bin .lss (.symi .u64 1) (.int .u64 16384)) (.e)))) 923575495 59 (.text [.symi .u8 58]) (.n (.n (.n (.e) 930339407 13 (.sop .len [.syms 12]) (.e)) 940783789 50 (.text [.symi .u8 48, .symi .u8 43, .symi .u8 32, .symi .u8 27, .symi .u8 16, .symi .u8 6]) (.n (.e) 958149221 18 (.text [.symi .u8 16, .symi .u8 6]) (.e))) 958268628 17 (.text [.symi .u8 16]) (.n (.n (.e) 1045526257 32 (.conv .u8 (.symi .u64 31)) (.e)) 1061049092 53 (.conv .u8 (.symi .u64 52)) (.n (.e) 1061883220 65 (.sop .cat [.syms 63, .syms 55]) (.e))))))
set_option maxRecDepth 100000 in
def wl11W : Sw := .node 2 (.run (.leaf .ret wlE11 [] [(1, .syms 10)] [])) (.node 3 (.run (.leaf .ret wlE11 [] [(1, .syms 22)] [])) (.node 4 (.run (.leaf .ret wlE11 [] [(1, .syms 38)] [])) (.run (.leaf .ret wlE11 [] [(1, .syms 64)] []))))
set_option maxRecDepth 100000 in
def wl11Kd : KdT := .n (.n (.n (.n (.n (.n (.n .e none .e) (some .u64) .e) (some .u64) (.n .e (some .u64) .e)) none (.n (.n .e none .e) none (.n .e none .e))) none (.n (.n (.n (.n .e none .e) (some .u64) .e) (some .u64) (.n .e (some .u64) .e)) none (.n (.n .e (some .u8) .e) (some .u8) (.n .e none .e)))) (some .u64) (.n (.n (.n (.n (.n .e none .e) none .e) none (.n .e none .e)) (some .u8) (.n (.n .e none .e) none (.n .e (some .u64) .e))) (some .u64) (.n (.n (.n .e none .e) none (.n .e (some .u8) .e)) none (.n (.n .e none .e) none (.n .e (some .u64) .e))))) (some .u64) (.n (.n (.n (.n (.n (.n .e none .e) (some .u8) .e) (some .u8) (.n .e (some .u8) .e)) (some .u64) (.n (.n .e none .e) none (.n .e (some .u64) .e))) none (.n (.n (.n .e (some .u8) .e) (some .u8) (.n .e (some .u64) .e)) none (.n (.n .e none .e) none (.n .e none .e)))) none (.n (.n (.n (.n (.n .e none .e) none .e) none (.n .e none .e)) none (.n (.n .e (some .u64) .e) (some .u64) (.n .e (some .u8) .e))) (some .u8) (.n (.n (.n .e none .e) none (.n .e none .e)) none (.n (.n .e (some .u64) .e) (some .u64) (.n .e (some .u8) .e)))))

def wl11Inv (σ : Sig) : Prop := StrsOk σ []
def wl11X : Ing := { m := 1, ins := wlK11, G := wl11G, T := wl11T, tab := wlTab, rows := [], inv := wl11Inv, strs := [], strok := fun _ h => h, lsts := wlLst, kb := 68, kt := wl11Kd }
theorem wl11_ok : okG wl11G 1 = true := by kernel_rfl
theorem wl11_lt : okLT 1 wl11G wl11T = true := by kernel_rfl
theorem wl11_seg : SegOkI Tryd.prog wlTab 44 (flatC (bodyOf Tryd.f11)) wlS11 wl11X wl11W where
  lt := wl11_lt
  ok := wl11_ok
  hook := fun F => no_hooks rfl F
  n0 := rfl
  id := by kernel_rfl
  reck := by kernel_rfl
  tab := rfl
  cuts := rfl
  kt := by kernel_rfl

/-- what is taken -/
structure Pl (τ : Sig) : Prop where
  n0 : 0 ≤ τ.ival 0
  n1 : τ.ival 0 < 18446744073709551616
  lo : 0 ≤ τ.ival 1
  hi : τ.ival 1 ≤ 1000000
theorem p3 {τ : Sig} (e : Eqs τ 3 wl9G) (h : Pl τ) : τ.ival 3 = τ.ival 0 % 4611686018427387904 := by
  have h3 : τ.ival 3 = IntKind.u64.wrap (BitVec.ofInt IntKind.u64.bits (τ.ival 0) &&& BitVec.ofInt IntKind.u64.bits (4611686018427387903)).toNat := eqI (e.at 0 _ rfl rfl) rfl
  rw [h3]; exact and_mask h.n0 h.n1
theorem p5 {τ : Sig} (e : Eqs τ 3 wl9G) (h : Pl τ) : τ.bval 5 = decide (τ.ival 0 % 4611686018427387904 ≥ 64) := by
  have a : τ.ival 4 = ((τ.ival 3 : Int).fdiv (2 ^ (min (6 : Int).toNat IntKind.u64.bits))) := eqI (e.at 1 _ rfl rfl) rfl
  have b : τ.bval 5 = decide (τ.ival 4 > 0) := eqB (e.at 2 _ rfl rfl) rfl
  have c := p3 e h
  rw [show (2 : Int) ^ (min (6 : Int).toNat IntKind.u64.bits) = 64 by decide, fdiv_pow (by decide)] at a
  rw [b, decide_eq_decide]
  omega
theorem p7 {τ : Sig} (e : Eqs τ 3 wl9G) (h : Pl τ) : τ.bval 7 = decide (τ.ival 0 % 4611686018427387904 ≥ 16384) := by
  have a : τ.ival 6 = ((τ.ival 3 : Int).fdiv (2 ^ (min (14 : Int).toNat IntKind.u64.bits))) := eqI (e.at 3 _ rfl rfl) rfl
  have b : τ.bval 7 = decide (τ.ival 6 > 0) := eqB (e.at 4 _ rfl rfl) rfl
  have c := p3 e h
  rw [show (2 : Int) ^ (min (14 : Int).toNat IntKind.u64.bits) = 16384 by decide, fdiv_pow (by decide)] at a
  rw [b, decide_eq_decide]
  omega
theorem p9 {τ : Sig} (e : Eqs τ 3 wl9G) (h : Pl τ) : τ.bval 9 = decide (τ.ival 0 % 4611686018427387904 ≥ 1073741824) := by
  have a : τ.ival 8 = ((τ.ival 3 : Int).fdiv (2 ^ (min (30 : Int).toNat IntKind.u64.bits))) := eqI (e.at 5 _ rfl rfl) rfl
  have b : τ.bval 9 = decide (τ.ival 8 > 0) := eqB (e.at 6 _ rfl rfl) rfl
  have c := p3 e h
  rw [show (2 : Int) ^ (min (30 : Int).toNat IntKind.u64.bits) = 1073741824 by decide, fdiv_pow (by decide)] at a
  rw [b, decide_eq_decide]
  omega
theorem s15 {τ : Sig} (e : Eqs τ 3 wl9G) (h : Pl τ) : τ.ival 15 = τ.ival 1 + 1 := by
  have b : τ.ival 15 = IntKind.i64.wrap (τ.ival 1 + 1) := eqI (e.at 12 _ rfl rfl) rfl
  have c := h.lo
  have d := h.hi
  rw [wr_i64] at b
  omega
theorem s22 {τ : Sig} (e : Eqs τ 3 wl9G) (h : Pl τ) : τ.ival 22 = τ.ival 1 + 2 := by
  have b : τ.ival 22 = IntKind.i64.wrap (τ.ival 15 + 1) := eqI (e.at 19 _ rfl rfl) rfl
  have a := s15 e h
  have c := h.lo
  have d := h.hi
  rw [wr_i64] at b
  omega
theorem s29 {τ : Sig} (e : Eqs τ 3 wl9G) (h : Pl τ) : τ.ival 29 = τ.ival 1 + 3 := by
  have b : τ.ival 29 = IntKind.i64.wrap (τ.ival 22 + 1) := eqI (e.at 26 _ rfl rfl) rfl
  have a := s22 e h
  have c := h.lo
  have d := h.hi
  rw [wr_i64] at b
  omega
theorem s36 {τ : Sig} (e : Eqs τ 3 wl9G) (h : Pl τ) : τ.ival 36 = τ.ival 1 + 4 := by
  have b : τ.ival 36 = IntKind.i64.wrap (τ.ival 29 + 1) := eqI (e.at 33 _ rfl rfl) rfl
  have a := s29 e h
  have c := h.lo
  have d := h.hi
  rw [wr_i64] at b
  omega
theorem s43 {τ : Sig} (e : Eqs τ 3 wl9G) (h : Pl τ) : τ.ival 43 = τ.ival 1 + 5 := by
  have b : τ.ival 43 = IntKind.i64.wrap (τ.ival 36 + 1) := eqI (e.at 40 _ rfl rfl) rfl
  have a := s36 e h
  have c := h.lo
  have d := h.hi
  rw [wr_i64] at b
  omega
theorem s50 {τ : Sig} (e : Eqs τ 3 wl9G) (h : Pl τ) : τ.ival 50 = τ.ival 1 + 6 := by
  have b : τ.ival 50 = IntKind.i64.wrap (τ.ival 43 + 1) := eqI (e.at 47 _ rfl rfl) rfl
  have a := s43 e h
  have c := h.lo
  have d := h.hi
  rw [wr_i64] at b
  omega
theorem s57 {τ : Sig} (e : Eqs τ 3 wl9G) (h : Pl τ) : τ.ival 57 = τ.ival 1 + 7 := by
  have b : τ.ival 57 = IntKind.i64.wrap (τ.ival 50 + 1) := eqI (e.at 54 _ rfl rfl) rfl
  have a := s50 e h
  have c := h.lo
  have d := h.hi
  rw [wr_i64] at b
  omega
theorem s64 {τ : Sig} (e : Eqs τ 3 wl9G) (h : Pl τ) : τ.ival 64 = τ.ival 1 + 8 := by
  have b : τ.ival 64 = IntKind.i64.wrap (τ.ival 57 + 1) := eqI (e.at 61 _ rfl rfl) rfl
  have a := s57 e h
  have c := h.lo
  have d := h.hi
  rw [wr_i64] at b
  omega
theorem t16 {τ : Sig} (e : Eqs τ 3 wl9G) (h : Pl τ) (f : τ.bval 16 = false) : False := by
  have b : τ.bval 16 = decide (0 ≤ τ.ival 15) := eqB (e.at 13 _ rfl rfl) rfl
  have a := s15 e h
  have c := h.lo
  have d := h.hi
  rw [f] at b
  have := of_decide_eq_false b.symm
  omega
theorem t17 {τ : Sig} (e : Eqs τ 3 wl9G) (h : Pl τ) (f : τ.bval 17 = false) : False := by
  have b : τ.bval 17 = decide (τ.ival 15 ≤ 140737488355328) := eqB (e.at 14 _ rfl rfl) rfl
  have a := s15 e h
  have c := h.lo
  have d := h.hi
  rw [f] at b
  have := of_decide_eq_false b.symm
  omega
theorem t23 {τ : Sig} (e : Eqs τ 3 wl9G) (h : Pl τ) (f : τ.bval 23 = false) : False := by
  have b : τ.bval 23 = decide (0 ≤ τ.ival 22) := eqB (e.at 20 _ rfl rfl) rfl
  have a := s22 e h
  have c := h.lo
  have d := h.hi
  rw [f] at b
  have := of_decide_eq_false b.symm
  omega
theorem t24 {τ : Sig} (e : Eqs τ 3 wl9G) (h : Pl τ) (f : τ.bval 24 = false) : False := by
  have b : τ.bval 24 = decide (τ.ival 22 ≤ 140737488355328) := eqB (e.at 21 _ rfl rfl) rfl
  have a := s22 e h
  have c := h.lo
  have d := h.hi
  rw [f] at b
  have := of_decide_eq_false b.symm
  omega
theorem t30 {τ : Sig} (e : Eqs τ 3 wl9G) (h : Pl τ) (f : τ.bval 30 = false) : False := by
  have b : τ.bval 30 = decide (0 ≤ τ.ival 29) := eqB (e.at 27 _ rfl rfl) rfl
  have a := s29 e h
  have c := h.lo
  have d := h.hi
  rw [f] at b
  have := of_decide_eq_false b.symm
  omega
theorem t31 {τ : Sig} (e : Eqs τ 3 wl9G) (h : Pl τ) (f : τ.bval 31 = false) : False := by
  have b : τ.bval 31 = decide (τ.ival 29 ≤ 140737488355328) := eqB (e.at 28 _ rfl rfl) rfl
  have a := s29 e h
  have c := h.lo
  have d := h.hi
  rw [f] at b
  have := of_decide_eq_false b.symm
  omega
theorem t37 {τ : Sig} (e : Eqs τ 3 wl9G) (h : Pl τ) (f : τ.bval 37 = false) : False := by
  have b : τ.bval 37 = decide (0 ≤ τ.ival 36) := eqB (e.at 34 _ rfl rfl) rfl
  have a := s36 e h
  have c := h.lo
  have d := h.hi
  rw [f] at b
  have := of_decide_eq_false b.symm
  omega
theorem t38 {τ : Sig} (e : Eqs τ 3 wl9G) (h : Pl τ) (f : τ.bval 38 = false) : False := by
  have b : τ.bval 38 = decide (τ.ival 36 ≤ 140737488355328) := eqB (e.at 35 _ rfl rfl) rfl
  have a := s36 e h
  have c := h.lo
  have d := h.hi
  rw [f] at b
  have := of_decide_eq_false b.symm
  omega
theorem t44 {τ : Sig} (e : Eqs τ 3 wl9G) (h : Pl τ) (f : τ.bval 44 = false) : False := by
  have b : τ.bval 44 = decide (0 ≤ τ.ival 43) := eqB (e.at 41 _ rfl rfl) rfl
  have a := s43 e h
  have c := h.lo
  have d := h.hi
  rw [f] at b
  have := of_decide_eq_false b.symm
  omega
theorem t45 {τ : Sig} (e : Eqs τ 3 wl9G) (h : Pl τ) (f : τ.bval 45 = false) : False := by
  have b : τ.bval 45 = decide (τ.ival 43 ≤ 140737488355328) := eqB (e.at 42 _ rfl rfl) rfl
  have a := s43 e h
  have c := h.lo
  have d := h.hi
  rw [f] at b
  have := of_decide_eq_false b.symm
  omega
theorem t51 {τ : Sig} (e : Eqs τ 3 wl9G) (h : Pl τ) (f : τ.bval 51 = false) : False := by
  have b : τ.bval 51 = decide (0 ≤ τ.ival 50) := eqB (e.at 48 _ rfl rfl) rfl
  have a := s50 e h
  have c := h.lo
  have d := h.hi
  rw [f] at b
  have := of_decide_eq_false b.symm
  omega
theorem t52 {τ : Sig} (e : Eqs τ 3 wl9G) (h : Pl τ) (f : τ.bval 52 = false) : False := by
  have b : τ.bval 52 = decide (τ.ival 50 ≤ 140737488355328) := eqB (e.at 49 _ rfl rfl) rfl
  have a := s50 e h
  have c := h.lo
  have d := h.hi
  rw [f] at b
  have := of_decide_eq_false b.symm
  omega
theorem t58 {τ : Sig} (e : Eqs τ 3 wl9G) (h : Pl τ) (f : τ.bval 58 = false) : False := by
  have b : τ.bval 58 = decide (0 ≤ τ.ival 57) := eqB (e.at 55 _ rfl rfl) rfl
  have a := s57 e h
  have c := h.lo
  have d := h.hi
  rw [f] at b
  have := of_decide_eq_false b.symm
  omega
theorem t59 {τ : Sig} (e : Eqs τ 3 wl9G) (h : Pl τ) (f : τ.bval 59 = false) : False := by
  have b : τ.bval 59 = decide (τ.ival 57 ≤ 140737488355328) := eqB (e.at 56 _ rfl rfl) rfl
  have a := s57 e h
  have c := h.lo
  have d := h.hi
  rw [f] at b
  have := of_decide_eq_false b.symm
  omega
theorem t65 {τ : Sig} (e : Eqs τ 3 wl9G) (h : Pl τ) (f : τ.bval 65 = false) : False := by
  have b : τ.bval 65 = decide (0 ≤ τ.ival 64) := eqB (e.at 62 _ rfl rfl) rfl
  have a := s64 e h
  have c := h.lo
  have d := h.hi
  rw [f] at b
  have := of_decide_eq_false b.symm
  omega
theorem t66 {τ : Sig} (e : Eqs τ 3 wl9G) (h : Pl τ) (f : τ.bval 66 = false) : False := by
  have b : τ.bval 66 = decide (τ.ival 64 ≤ 140737488355328) := eqB (e.at 63 _ rfl rfl) rfl
  have a := s64 e h
  have c := h.lo
  have d := h.hi
  rw [f] at b
  have := of_decide_eq_false b.symm
  omega
theorem o10 {τ : Sig} (e : Eqs τ 3 wl9G) (h : Pl τ) (h1 : 1073741824 ≤ τ.ival 0 % 4611686018427387904) (h2 : τ.ival 0 % 4611686018427387904 < 4611686018427387904) : τ.ival 10 = τ.ival 0 % 4611686018427387904 + 13835058055282163712 := by
  have b : τ.ival 10 = IntKind.u64.wrap (BitVec.ofInt IntKind.u64.bits (τ.ival 3) ||| BitVec.ofInt IntKind.u64.bits (13835058055282163712)).toNat := eqI (e.at 7 _ rfl rfl) rfl
  rw [b, p3 e h]
  exact or_lit 62 3 (by decide) (by omega) (by omega) (by decide)
theorem c10 {τ : Sig} (e : Eqs τ 3 wl9G) (h : Pl τ) (h1 : 1073741824 ≤ τ.ival 0 % 4611686018427387904) (h2 : τ.ival 0 % 4611686018427387904 < 4611686018427387904) : τ.sval 63 = τ.sval 2 ++ bs (pbL (τ.ival 0)) := by
  have a := o10 e h h1 h2
  have u0 : τ.ival 11 = τ.ival 10 / 72057594037927936 := (eqI (x := (τ.ival 10 : Int).fdiv (2 ^ (min (56 : Int).toNat IntKind.u64.bits))) (e.at 8 _ rfl rfl) rfl).trans (by rw [show (2 : Int) ^ (min (56 : Int).toNat IntKind.u64.bits) = 72057594037927936 by decide]; exact fdiv_pow (by decide))
  have v0 : τ.ival 12 = (τ.ival 0 % 4611686018427387904) / 72057594037927936 + 192 := by
    have w : τ.ival 12 = IntKind.u8.wrap (τ.ival 11) := eqI (e.at 9 _ rfl rfl) rfl
    rw [wr_u8] at w
    omega
  have r0 : τ.sval 13 = bs [(τ.ival 0 % 4611686018427387904) / 72057594037927936 + 192] := by rw [eqRow (n := τ.ival 12) (e.at 10 _ rfl rfl) rfl (by omega) (by omega), v0]
  have k0 : τ.sval 14 = τ.sval 2 ++ τ.sval 13 := eqCat (e.at 11 _ rfl rfl) rfl rfl
  have u1 : τ.ival 18 = τ.ival 10 / 281474976710656 := (eqI (x := (τ.ival 10 : Int).fdiv (2 ^ (min (48 : Int).toNat IntKind.u64.bits))) (e.at 15 _ rfl rfl) rfl).trans (by rw [show (2 : Int) ^ (min (48 : Int).toNat IntKind.u64.bits) = 281474976710656 by decide]; exact fdiv_pow (by decide))
  have v1 : τ.ival 19 = (τ.ival 0 % 4611686018427387904) / 281474976710656 % 256 := by
    have w : τ.ival 19 = IntKind.u8.wrap (τ.ival 18) := eqI (e.at 16 _ rfl rfl) rfl
    rw [wr_u8] at w
    omega
  have r1 : τ.sval 20 = bs [(τ.ival 0 % 4611686018427387904) / 281474976710656 % 256] := by rw [eqRow (n := τ.ival 19) (e.at 17 _ rfl rfl) rfl (by omega) (by omega), v1]
  have k1 : τ.sval 21 = τ.sval 14 ++ τ.sval 20 := eqCat (e.at 18 _ rfl rfl) rfl rfl
  have u2 : τ.ival 25 = τ.ival 10 / 1099511627776 := (eqI (x := (τ.ival 10 : Int).fdiv (2 ^ (min (40 : Int).toNat IntKind.u64.bits))) (e.at 22 _ rfl rfl) rfl).trans (by rw [show (2 : Int) ^ (min (40 : Int).toNat IntKind.u64.bits) = 1099511627776 by decide]; exact fdiv_pow (by decide))
  have v2 : τ.ival 26 = (τ.ival 0 % 4611686018427387904) / 1099511627776 % 256 := by
    have w : τ.ival 26 = IntKind.u8.wrap (τ.ival 25) := eqI (e.at 23 _ rfl rfl) rfl
    rw [wr_u8] at w
    omega
  have r2 : τ.sval 27 = bs [(τ.ival 0 % 4611686018427387904) / 1099511627776 % 256] := by rw [eqRow (n := τ.ival 26) (e.at 24 _ rfl rfl) rfl (by omega) (by omega), v2]
  have k2 : τ.sval 28 = τ.sval 21 ++ τ.sval 27 := eqCat (e.at 25 _ rfl rfl) rfl rfl
  have u3 : τ.ival 32 = τ.ival 10 / 4294967296 := (eqI (x := (τ.ival 10 : Int).fdiv (2 ^ (min (32 : Int).toNat IntKind.u64.bits))) (e.at 29 _ rfl rfl) rfl).trans (by rw [show (2 : Int) ^ (min (32 : Int).toNat IntKind.u64.bits) = 4294967296 by decide]; exact fdiv_pow (by decide))
  have v3 : τ.ival 33 = (τ.ival 0 % 4611686018427387904) / 4294967296 % 256 := by
    have w : τ.ival 33 = IntKind.u8.wrap (τ.ival 32) := eqI (e.at 30 _ rfl rfl) rfl
    rw [wr_u8] at w
    omega
  have r3 : τ.sval 34 = bs [(τ.ival 0 % 4611686018427387904) / 4294967296 % 256] := by rw [eqRow (n := τ.ival 33) (e.at 31 _ rfl rfl) rfl (by omega) (by omega), v3]
  have k3 : τ.sval 35 = τ.sval 28 ++ τ.sval 34 := eqCat (e.at 32 _ rfl rfl) rfl rfl
  have u4 : τ.ival 39 = τ.ival 10 / 16777216 := (eqI (x := (τ.ival 10 : Int).fdiv (2 ^ (min (24 : Int).toNat IntKind.u64.bits))) (e.at 36 _ rfl rfl) rfl).trans (by rw [show (2 : Int) ^ (min (24 : Int).toNat IntKind.u64.bits) = 16777216 by decide]; exact fdiv_pow (by decide))
  have v4 : τ.ival 40 = (τ.ival 0 % 4611686018427387904) / 16777216 % 256 := by
    have w : τ.ival 40 = IntKind.u8.wrap (τ.ival 39) := eqI (e.at 37 _ rfl rfl) rfl
    rw [wr_u8] at w
    omega
  have r4 : τ.sval 41 = bs [(τ.ival 0 % 4611686018427387904) / 16777216 % 256] := by rw [eqRow (n := τ.ival 40) (e.at 38 _ rfl rfl) rfl (by omega) (by omega), v4]
  have k4 : τ.sval 42 = τ.sval 35 ++ τ.sval 41 := eqCat (e.at 39 _ rfl rfl) rfl rfl
  have u5 : τ.ival 46 = τ.ival 10 / 65536 := (eqI (x := (τ.ival 10 : Int).fdiv (2 ^ (min (16 : Int).toNat IntKind.u64.bits))) (e.at 43 _ rfl rfl) rfl).trans (by rw [show (2 : Int) ^ (min (16 : Int).toNat IntKind.u64.bits) = 65536 by decide]; exact fdiv_pow (by decide))
  have v5 : τ.ival 47 = (τ.ival 0 % 4611686018427387904) / 65536 % 256 := by
    have w : τ.ival 47 = IntKind.u8.wrap (τ.ival 46) := eqI (e.at 44 _ rfl rfl) rfl
    rw [wr_u8] at w
    omega
  have r5 : τ.sval 48 = bs [(τ.ival 0 % 4611686018427387904) / 65536 % 256] := by rw [eqRow (n := τ.ival 47) (e.at 45 _ rfl rfl) rfl (by omega) (by omega), v5]
  have k5 : τ.sval 49 = τ.sval 42 ++ τ.sval 48 := eqCat (e.at 46 _ rfl rfl) rfl rfl
  have u6 : τ.ival 53 = τ.ival 10 / 256 := (eqI (x := (τ.ival 10 : Int).fdiv (2 ^ (min (8 : Int).toNat IntKind.u64.bits))) (e.at 50 _ rfl rfl) rfl).trans (by rw [show (2 : Int) ^ (min (8 : Int).toNat IntKind.u64.bits) = 256 by decide]; exact fdiv_pow (by decide))
  have v6 : τ.ival 54 = (τ.ival 0 % 4611686018427387904) / 256 % 256 := by
    have w : τ.ival 54 = IntKind.u8.wrap (τ.ival 53) := eqI (e.at 51 _ rfl rfl) rfl
    rw [wr_u8] at w
    omega
  have r6 : τ.sval 55 = bs [(τ.ival 0 % 4611686018427387904) / 256 % 256] := by rw [eqRow (n := τ.ival 54) (e.at 52 _ rfl rfl) rfl (by omega) (by omega), v6]
  have k6 : τ.sval 56 = τ.sval 49 ++ τ.sval 55 := eqCat (e.at 53 _ rfl rfl) rfl rfl
  have u7 : τ.ival 60 = τ.ival 10 / 1 := (eqI (x := (τ.ival 10 : Int).fdiv (2 ^ (min (0 : Int).toNat IntKind.u64.bits))) (e.at 57 _ rfl rfl) rfl).trans (by rw [show (2 : Int) ^ (min (0 : Int).toNat IntKind.u64.bits) = 1 by decide]; exact fdiv_pow (by decide))
  have v7 : τ.ival 61 = (τ.ival 0 % 4611686018427387904) % 256 := by
    have w : τ.ival 61 = IntKind.u8.wrap (τ.ival 60) := eqI (e.at 58 _ rfl rfl) rfl
    rw [wr_u8] at w
    omega
  have r7 : τ.sval 62 = bs [(τ.ival 0 % 4611686018427387904) % 256] := by rw [eqRow (n := τ.ival 61) (e.at 59 _ rfl rfl) rfl (by omega) (by omega), v7]
  have k7 : τ.sval 63 = τ.sval 56 ++ τ.sval 62 := eqCat (e.at 60 _ rfl rfl) rfl rfl
  rw [k7, k6, k5, k4, k3, k2, k1, k0, r0, r1, r2, r3, r4, r5, r6, r7]
  try simp only [ByteArray.append_assoc, bs_append, List.cons_append, List.nil_append]
  unfold pbL pbM
  rw [if_neg (by omega), if_neg (by omega), if_neg (by omega)]
theorem l10 {τ : Sig} (h1 : 1073741824 ≤ τ.ival 0 % 4611686018427387904) (h2 : τ.ival 0 % 4611686018427387904 < 4611686018427387904) : (pbL (τ.ival 0)).length = 8 := by
  unfold pbL pbM
  rw [if_neg (by omega), if_neg (by omega), if_neg (by omega)]
  rfl
theorem o67 {τ : Sig} (e : Eqs τ 3 wl9G) (h : Pl τ) (h1 : 16384 ≤ τ.ival 0 % 4611686018427387904) (h2 : τ.ival 0 % 4611686018427387904 < 1073741824) : τ.ival 67 = τ.ival 0 % 4611686018427387904 + 2147483648 := by
  have b : τ.ival 67 = IntKind.u64.wrap (BitVec.ofInt IntKind.u64.bits (τ.ival 3) ||| BitVec.ofInt IntKind.u64.bits (2147483648)).toNat := eqI (e.at 64 _ rfl rfl) rfl
  rw [b, p3 e h]
  exact or_lit 30 2 (by decide) (by omega) (by omega) (by decide)
theorem c67 {τ : Sig} (e : Eqs τ 3 wl9G) (h : Pl τ) (h1 : 16384 ≤ τ.ival 0 % 4611686018427387904) (h2 : τ.ival 0 % 4611686018427387904 < 1073741824) : τ.sval 83 = τ.sval 2 ++ bs (pbL (τ.ival 0)) := by
  have a := o67 e h h1 h2
  have u0 : τ.ival 68 = τ.ival 67 / 16777216 := (eqI (x := (τ.ival 67 : Int).fdiv (2 ^ (min (24 : Int).toNat IntKind.u64.bits))) (e.at 65 _ rfl rfl) rfl).trans (by rw [show (2 : Int) ^ (min (24 : Int).toNat IntKind.u64.bits) = 16777216 by decide]; exact fdiv_pow (by decide))
  have v0 : τ.ival 69 = (τ.ival 0 % 4611686018427387904) / 16777216 + 128 := by
    have w : τ.ival 69 = IntKind.u8.wrap (τ.ival 68) := eqI (e.at 66 _ rfl rfl) rfl
    rw [wr_u8] at w
    omega
  have r0 : τ.sval 70 = bs [(τ.ival 0 % 4611686018427387904) / 16777216 + 128] := by rw [eqRow (n := τ.ival 69) (e.at 67 _ rfl rfl) rfl (by omega) (by omega), v0]
  have k0 : τ.sval 71 = τ.sval 2 ++ τ.sval 70 := eqCat (e.at 68 _ rfl rfl) rfl rfl
  have u1 : τ.ival 72 = τ.ival 67 / 65536 := (eqI (x := (τ.ival 67 : Int).fdiv (2 ^ (min (16 : Int).toNat IntKind.u64.bits))) (e.at 69 _ rfl rfl) rfl).trans (by rw [show (2 : Int) ^ (min (16 : Int).toNat IntKind.u64.bits) = 65536 by decide]; exact fdiv_pow (by decide))
  have v1 : τ.ival 73 = (τ.ival 0 % 4611686018427387904) / 65536 % 256 := by
    have w : τ.ival 73 = IntKind.u8.wrap (τ.ival 72) := eqI (e.at 70 _ rfl rfl) rfl
    rw [wr_u8] at w
    omega
  have r1 : τ.sval 74 = bs [(τ.ival 0 % 4611686018427387904) / 65536 % 256] := by rw [eqRow (n := τ.ival 73) (e.at 71 _ rfl rfl) rfl (by omega) (by omega), v1]
  have k1 : τ.sval 75 = τ.sval 71 ++ τ.sval 74 := eqCat (e.at 72 _ rfl rfl) rfl rfl
  have u2 : τ.ival 76 = τ.ival 67 / 256 := (eqI (x := (τ.ival 67 : Int).fdiv (2 ^ (min (8 : Int).toNat IntKind.u64.bits))) (e.at 73 _ rfl rfl) rfl).trans (by rw [show (2 : Int) ^ (min (8 : Int).toNat IntKind.u64.bits) = 256 by decide]; exact fdiv_pow (by decide))
  have v2 : τ.ival 77 = (τ.ival 0 % 4611686018427387904) / 256 % 256 := by
    have w : τ.ival 77 = IntKind.u8.wrap (τ.ival 76) := eqI (e.at 74 _ rfl rfl) rfl
    rw [wr_u8] at w
    omega
  have r2 : τ.sval 78 = bs [(τ.ival 0 % 4611686018427387904) / 256 % 256] := by rw [eqRow (n := τ.ival 77) (e.at 75 _ rfl rfl) rfl (by omega) (by omega), v2]
  have k2 : τ.sval 79 = τ.sval 75 ++ τ.sval 78 := eqCat (e.at 76 _ rfl rfl) rfl rfl
  have u3 : τ.ival 80 = τ.ival 67 / 1 := (eqI (x := (τ.ival 67 : Int).fdiv (2 ^ (min (0 : Int).toNat IntKind.u64.bits))) (e.at 77 _ rfl rfl) rfl).trans (by rw [show (2 : Int) ^ (min (0 : Int).toNat IntKind.u64.bits) = 1 by decide]; exact fdiv_pow (by decide))
  have v3 : τ.ival 81 = (τ.ival 0 % 4611686018427387904) % 256 := by
    have w : τ.ival 81 = IntKind.u8.wrap (τ.ival 80) := eqI (e.at 78 _ rfl rfl) rfl
    rw [wr_u8] at w
    omega
  have r3 : τ.sval 82 = bs [(τ.ival 0 % 4611686018427387904) % 256] := by rw [eqRow (n := τ.ival 81) (e.at 79 _ rfl rfl) rfl (by omega) (by omega), v3]
  have k3 : τ.sval 83 = τ.sval 79 ++ τ.sval 82 := eqCat (e.at 80 _ rfl rfl) rfl rfl
  rw [k3, k2, k1, k0, r0, r1, r2, r3]
  try simp only [ByteArray.append_assoc, bs_append, List.cons_append, List.nil_append]
  unfold pbL pbM
  repeat (first | rw [if_pos (by omega)] | rw [if_neg (by omega)])
theorem l67 {τ : Sig} (h1 : 16384 ≤ τ.ival 0 % 4611686018427387904) (h2 : τ.ival 0 % 4611686018427387904 < 1073741824) : (pbL (τ.ival 0)).length = 4 := by
  unfold pbL pbM
  repeat (first | rw [if_pos (by omega)] | rw [if_neg (by omega)])
  rfl
theorem o84 {τ : Sig} (e : Eqs τ 3 wl9G) (h : Pl τ) (h1 : 64 ≤ τ.ival 0 % 4611686018427387904) (h2 : τ.ival 0 % 4611686018427387904 < 16384) : τ.ival 84 = τ.ival 0 % 4611686018427387904 + 16384 := by
  have b : τ.ival 84 = IntKind.u64.wrap (BitVec.ofInt IntKind.u64.bits (τ.ival 3) ||| BitVec.ofInt IntKind.u64.bits (16384)).toNat := eqI (e.at 81 _ rfl rfl) rfl
  rw [b, p3 e h]
  exact or_lit 14 1 (by decide) (by omega) (by omega) (by decide)
theorem c84 {τ : Sig} (e : Eqs τ 3 wl9G) (h : Pl τ) (h1 : 64 ≤ τ.ival 0 % 4611686018427387904) (h2 : τ.ival 0 % 4611686018427387904 < 16384) : τ.sval 92 = τ.sval 2 ++ bs (pbL (τ.ival 0)) := by
  have a := o84 e h h1 h2
  have u0 : τ.ival 85 = τ.ival 84 / 256 := (eqI (x := (τ.ival 84 : Int).fdiv (2 ^ (min (8 : Int).toNat IntKind.u64.bits))) (e.at 82 _ rfl rfl) rfl).trans (by rw [show (2 : Int) ^ (min (8 : Int).toNat IntKind.u64.bits) = 256 by decide]; exact fdiv_pow (by decide))
  have v0 : τ.ival 86 = (τ.ival 0 % 4611686018427387904) / 256 + 64 := by
    have w : τ.ival 86 = IntKind.u8.wrap (τ.ival 85) := eqI (e.at 83 _ rfl rfl) rfl
    rw [wr_u8] at w
    omega
  have r0 : τ.sval 87 = bs [(τ.ival 0 % 4611686018427387904) / 256 + 64] := by rw [eqRow (n := τ.ival 86) (e.at 84 _ rfl rfl) rfl (by omega) (by omega), v0]
  have k0 : τ.sval 88 = τ.sval 2 ++ τ.sval 87 := eqCat (e.at 85 _ rfl rfl) rfl rfl
  have u1 : τ.ival 89 = τ.ival 84 / 1 := (eqI (x := (τ.ival 84 : Int).fdiv (2 ^ (min (0 : Int).toNat IntKind.u64.bits))) (e.at 86 _ rfl rfl) rfl).trans (by rw [show (2 : Int) ^ (min (0 : Int).toNat IntKind.u64.bits) = 1 by decide]; exact fdiv_pow (by decide))
  have v1 : τ.ival 90 = (τ.ival 0 % 4611686018427387904) % 256 := by
    have w : τ.ival 90 = IntKind.u8.wrap (τ.ival 89) := eqI (e.at 87 _ rfl rfl) rfl
    rw [wr_u8] at w
    omega
  have r1 : τ.sval 91 = bs [(τ.ival 0 % 4611686018427387904) % 256] := by rw [eqRow (n := τ.ival 90) (e.at 88 _ rfl rfl) rfl (by omega) (by omega), v1]
  have k1 : τ.sval 92 = τ.sval 88 ++ τ.sval 91 := eqCat (e.at 89 _ rfl rfl) rfl rfl
  rw [k1, k0, r0, r1]
  try simp only [ByteArray.append_assoc, bs_append, List.cons_append, List.nil_append]
  unfold pbL pbM
  repeat (first | rw [if_pos (by omega)] | rw [if_neg (by omega)])
theorem l84 {τ : Sig} (h1 : 64 ≤ τ.ival 0 % 4611686018427387904) (h2 : τ.ival 0 % 4611686018427387904 < 16384) : (pbL (τ.ival 0)).length = 2 := by
  unfold pbL pbM
  repeat (first | rw [if_pos (by omega)] | rw [if_neg (by omega)])
  rfl
theorem o93 {τ : Sig} (e : Eqs τ 3 wl9G) (h : Pl τ) (h1 : 0 ≤ τ.ival 0 % 4611686018427387904) (h2 : τ.ival 0 % 4611686018427387904 < 64) : τ.ival 93 = τ.ival 0 % 4611686018427387904 + 0 := by
  have b : τ.ival 93 = IntKind.u64.wrap (BitVec.ofInt IntKind.u64.bits (τ.ival 3) ||| BitVec.ofInt IntKind.u64.bits (0)).toNat := eqI (e.at 90 _ rfl rfl) rfl
  rw [b, p3 e h]
  exact or_lit 6 0 (by decide) (by omega) (by omega) (by decide)
theorem c93 {τ : Sig} (e : Eqs τ 3 wl9G) (h : Pl τ) (h1 : 0 ≤ τ.ival 0 % 4611686018427387904) (h2 : τ.ival 0 % 4611686018427387904 < 64) : τ.sval 97 = τ.sval 2 ++ bs (pbL (τ.ival 0)) := by
  have a := o93 e h h1 h2
  have u0 : τ.ival 94 = τ.ival 93 / 1 := (eqI (x := (τ.ival 93 : Int).fdiv (2 ^ (min (0 : Int).toNat IntKind.u64.bits))) (e.at 91 _ rfl rfl) rfl).trans (by rw [show (2 : Int) ^ (min (0 : Int).toNat IntKind.u64.bits) = 1 by decide]; exact fdiv_pow (by decide))
  have v0 : τ.ival 95 = τ.ival 0 % 4611686018427387904 := by
    have w : τ.ival 95 = IntKind.u8.wrap (τ.ival 94) := eqI (e.at 92 _ rfl rfl) rfl
    rw [wr_u8] at w
    omega
  have r0 : τ.sval 96 = bs [τ.ival 0 % 4611686018427387904] := by rw [eqRow (n := τ.ival 95) (e.at 93 _ rfl rfl) rfl (by omega) (by omega), v0]
  have k0 : τ.sval 97 = τ.sval 2 ++ τ.sval 96 := eqCat (e.at 94 _ rfl rfl) rfl rfl
  rw [k0, r0]
  try simp only [ByteArray.append_assoc, bs_append, List.cons_append, List.nil_append]
  unfold pbL pbM
  repeat (first | rw [if_pos (by omega)] | rw [if_neg (by omega)])
theorem l93 {τ : Sig} (h1 : 0 ≤ τ.ival 0 % 4611686018427387904) (h2 : τ.ival 0 % 4611686018427387904 < 64) : (pbL (τ.ival 0)).length = 1 := by
  unfold pbL pbM
  repeat (first | rw [if_pos (by omega)] | rw [if_neg (by omega)])
  rfl

theorem E9 {g : Inj} {w : World} {τ : Sig} {l : Asg} {hH : HRel (cx0 wlTab) g sf9.pre w} {hg : g.sig.tab = wlTab} (h : DenEq (asgS τ l) g.sig [(6, .symi .i64 6), (4, .syms 4), (6, .symi .i64 6)]) (hx : τ.ext = g.sig.ext) :
    EndZ wlTab 42 (fraOf g w sf9.pre.length) (bodyPost Tryd.prog Tryd.f9 (MemR wlTab sf9 g w)) .ret wlE9 (asgS τ l) :=
  endZ_mem (M := 7) (vs := [.lsl 0 1 true (.int .i64 0) (.symi .i64 6)]) (by kernel_rfl) rfl rfl hH hg rfl rfl rfl (by kernel_rfl) (by kernel_rfl) h (Nat.zero_le _) hx (.inl rfl)
/-- row 0: its length, its content -/
def wlInv (E : Nat → Option Fz) (σ : Sig) : Prop := σ.ext = E ∧ (∀ Y, E 0 = some Y → σ.ival 1 = Y.len ∧ StrX σ (.syms 2) [some .u8] Y)
theorem wlInv.agree {E : Nat → Option Fz} {σ τ : Sig} (ag : Agree 3 σ τ) (h : wlInv E σ) : wlInv E τ := by
  refine ⟨by rw [← ag.ext]; exact h.1, fun Y hY => ?_⟩
  obtain ⟨h1, h2, S, h3, h4⟩ := h.2 Y hY
  exact ⟨by rw [← (ag.val 1 (by decide)).1]; exact h1, h2, S, by rw [← h3]; show AVal.str _ = AVal.str _; rw [(ag.val 2 (by decide)).2.2], h4⟩
theorem wlInv.rows {E : Nat → Option Fz} {τ : Sig} (h : wlInv E τ) : RowsOk τ [⟨.symi .i64 1, []⟩] := by
  intro i r Y hr hY
  have hr0 : i = 0 := by
    cases i with
    | zero => rfl
    | succ i => simp at hr
  subst hr0
  rw [h.1] at hY
  simp only [List.getElem?_cons_zero, Option.some.injEq] at hr
  subst hr
  exact ⟨by show AVal.int .i64 _ = _; rw [(h.2 Y hY).1], fun p hp => by cases hp⟩
theorem wlInv.strs {E : Nat → Option Fz} {τ : Sig} (h : wlInv E τ) : StrsOk τ wlStr := ⟨fun X hX => (h.2 X (by rw [← h.1]; exact hX)).2, trivial⟩
set_option maxHeartbeats 0 in
theorem wl9_contract (E : Nat → Option Fz) : SymFOk Tryd.prog wlTab (wlInv E) sf9 :=
  symF_of_stage Tryd.func9 rfl (n := 42) rfl (by decide) (by decide) rfl rfl (by kernel_rfl) (fun g w hg hv hE hI hpc hH => by
    refine Stage.lastI mixed wl9_seg ⟨rfl, rfl⟩ (fun σ τ ag h => h.trans' ag) (fun τ h => (hv.agree h).rows) (fun τ h => (hv.agree h).strs) (fun τ e ht hi ag => ?_) ?_
    · have hx : τ.ext = g.sig.ext := ag.ext.symm
      have q0 := hpc (.bin .leq (.int .i64 0) (.symi .i64 1)) (by simp [sf9])
      have q1 := hpc (.bin .leq (.symi .i64 1) (.int .i64 1000000)) (by simp [sf9])
      simp only [evalS, den, binS, intA, if_true, Option.some.injEq, AVal.bool.injEq, decide_eq_true_eq] at q0 q1
      have i0 := hi 0 .u64 (by decide) rfl
      rw [wr_u64] at i0
      have a0 := (ag.val 0 (by decide)).1
      have a1 := (ag.val 1 (by decide)).1
      have a2 := (ag.val 2 (by decide)).2.2
      have hp : Pl τ := ⟨by omega, by omega, by omega, by omega⟩
      have g3 : g.sig.sval 3 = bs (pbL (τ.ival 0)) := by
        have h3 : g.sig.sval 3 = decS (g.sig.tab 140 [g.sig.ival 0]) := eqFs (hE.at 0 _ rfl rfl)
        rw [hg, tab_s, a0] at h3; exact h3
      have g4 : g.sig.sval 4 = τ.sval 2 ++ bs (pbL (τ.ival 0)) := by
        have h4 : g.sig.sval 4 = g.sig.sval 2 ++ g.sig.sval 3 := eqCat (hE.at 1 _ rfl rfl) rfl rfl
        rw [a2, g3] at h4; exact h4
      have g6 : g.sig.ival 6 = τ.ival 1 + ((pbL (τ.ival 0)).length : Int) := by
        have h5 : g.sig.ival 5 = IntKind.i64.wrap (g.sig.tab 141 [g.sig.ival 0]) := eqI (hE.at 2 _ rfl rfl) rfl
        have h6 : g.sig.ival 6 = IntKind.i64.wrap (g.sig.ival 1 + g.sig.ival 5) := eqI (hE.at 3 _ rfl rfl) rfl
        have hl := pbL_len (τ.ival 0)
        rw [hg, tab_n, a0, wr_i64] at h5
        rw [wr_i64] at h6
        omega
      refine segsPw_segs ?_
      exact ⟨fun f0 => ⟨fun f1 => ⟨fun f2 => ⟨fun f3 => ⟨fun f4 => ⟨fun f5 => ⟨fun f6 => ⟨fun f7 => ⟨fun f8 => ⟨fun f9 => ⟨fun f10 => ⟨fun f11 => ⟨fun f12 => ⟨fun f13 => ⟨fun f14 => ⟨fun f15 => ⟨fun f16 => ⟨fun f17 => ⟨fun f18 => (by have g5 := p5 e hp; rw [f0] at g5; have g5 := of_decide_eq_true g5.symm; have g7 := p7 e hp; rw [f1] at g7; have g7 := of_decide_eq_true g7.symm; have g9 := p9 e hp; rw [f2] at g9; have g9 := of_decide_eq_true g9.symm; have cc := c10 e hp (by omega) (by omega); have ll := l10 (τ := τ) (by omega) (by omega); have ss := s64 e hp; exact E9 (hH := hH) (hg := hg) ⟨(show AVal.int .i64 (τ.ival 64) = .int .i64 (g.sig.ival 6) by rw [g6, ss, ll]; rfl), (show AVal.str (τ.sval 63) = .str (g.sig.sval 4) by rw [g4, cc]), (show AVal.int .i64 (τ.ival 64) = .int .i64 (g.sig.ival 6) by rw [g6, ss, ll]; rfl), trivial⟩ hx),
 fun f18 => (by exact t66 e hp f18)⟩,
 fun f17 => (by exact t65 e hp f17)⟩,
 fun f16 => (by exact t59 e hp f16)⟩,
 fun f15 => (by exact t58 e hp f15)⟩,
 fun f14 => (by exact t52 e hp f14)⟩,
 fun f13 => (by exact t51 e hp f13)⟩,
 fun f12 => (by exact t45 e hp f12)⟩,
 fun f11 => (by exact t44 e hp f11)⟩,
 fun f10 => (by exact t38 e hp f10)⟩,
 fun f9 => (by exact t37 e hp f9)⟩,
 fun f8 => (by exact t31 e hp f8)⟩,
 fun f7 => (by exact t30 e hp f7)⟩,
 fun f6 => (by exact t24 e hp f6)⟩,
 fun f5 => (by exact t23 e hp f5)⟩,
 fun f4 => (by exact t17 e hp f4)⟩,
 fun f3 => (by exact t16 e hp f3)⟩,
 fun f2 => ⟨fun f3 => ⟨fun f4 => ⟨fun f5 => ⟨fun f6 => ⟨fun f7 => ⟨fun f8 => ⟨fun f9 => ⟨fun f10 => (by have g5 := p5 e hp; rw [f0] at g5; have g5 := of_decide_eq_true g5.symm; have g7 := p7 e hp; rw [f1] at g7; have g7 := of_decide_eq_true g7.symm; have g9 := p9 e hp; rw [f2] at g9; have g9 := of_decide_eq_false g9.symm; have cc := c67 e hp (by omega) (by omega); have ll := l67 (τ := τ) (by omega) (by omega); have ss := s36 e hp; exact E9 (hH := hH) (hg := hg) ⟨(show AVal.int .i64 (τ.ival 36) = .int .i64 (g.sig.ival 6) by rw [g6, ss, ll]; rfl), (show AVal.str (τ.sval 83) = .str (g.sig.sval 4) by rw [g4, cc]), (show AVal.int .i64 (τ.ival 36) = .int .i64 (g.sig.ival 6) by rw [g6, ss, ll]; rfl), trivial⟩ hx),
 fun f10 => (by exact t38 e hp f10)⟩,
 fun f9 => (by exact t37 e hp f9)⟩,
 fun f8 => (by exact t31 e hp f8)⟩,
 fun f7 => (by exact t30 e hp f7)⟩,
 fun f6 => (by exact t24 e hp f6)⟩,
 fun f5 => (by exact t23 e hp f5)⟩,
 fun f4 => (by exact t17 e hp f4)⟩,
 fun f3 => (by exact t16 e hp f3)⟩⟩,
 fun f1 => ⟨fun f2 => ⟨fun f3 => ⟨fun f4 => ⟨fun f5 => (by have g5 := p5 e hp; rw [f0] at g5; have g5 := of_decide_eq_true g5.symm; have g7 := p7 e hp; rw [f1] at g7; have g7 := of_decide_eq_false g7.symm; have cc := c84 e hp (by omega) (by omega); have ll := l84 (τ := τ) (by omega) (by omega); have ss := s22 e hp; exact E9 (hH := hH) (hg := hg) ⟨(show AVal.int .i64 (τ.ival 22) = .int .i64 (g.sig.ival 6) by rw [g6, ss, ll]; rfl), (show AVal.str (τ.sval 92) = .str (g.sig.sval 4) by rw [g4, cc]), (show AVal.int .i64 (τ.ival 22) = .int .i64 (g.sig.ival 6) by rw [g6, ss, ll]; rfl), trivial⟩ hx),
 fun f5 => (by exact t24 e hp f5)⟩,
 fun f4 => (by exact t23 e hp f4)⟩,
 fun f3 => (by exact t17 e hp f3)⟩,
 fun f2 => (by exact t16 e hp f2)⟩⟩,
 fun f0 => ⟨fun f1 => ⟨fun f2 => (by have g5 := p5 e hp; rw [f0] at g5; have g5 := of_decide_eq_false g5.symm; have cc := c93 e hp (by omega) (by omega); have ll := l93 (τ := τ) (by omega) (by omega); have ss := s15 e hp; exact E9 (hH := hH) (hg := hg) ⟨(show AVal.int .i64 (τ.ival 15) = .int .i64 (g.sig.ival 6) by rw [g6, ss, ll]; rfl), (show AVal.str (τ.sval 97) = .str (g.sig.sval 4) by rw [g4, cc]), (show AVal.int .i64 (τ.ival 15) = .int .i64 (g.sig.ival 6) by rw [g6, ss, ll]; rfl), trivial⟩ hx),
 fun f2 => (by exact t17 e hp f2)⟩,
 fun f1 => (by exact t16 e hp f1)⟩⟩
    · intro i hi
      exact absurd (by show (if i < 0 then some (g.loc i) else none) = none; rw [if_neg (Nat.not_lt_zero i)]) hi)

/-- what is taken -/
structure Nl (τ : Sig) : Prop where
  n0 : 0 ≤ τ.ival 0
  n1 : τ.ival 0 < 18446744073709551616
theorem n1 {τ : Sig} (e : Eqs τ 1 wl11G) (h : Nl τ) : τ.ival 1 = τ.ival 0 % 4611686018427387904 := by
  have b : τ.ival 1 = ((τ.ival 0 : Int).tmod 4611686018427387904) := eqI (e.at 0 _ rfl rfl) rfl
  have a := h.n0
  rw [b, Int.tmod_eq_emod_of_nonneg a]
theorem m2 {τ : Sig} (e : Eqs τ 1 wl11G) (h : Nl τ) : τ.bval 2 = decide (τ.ival 0 % 4611686018427387904 < 64) := by
  have b : τ.bval 2 = decide (τ.ival 1 < 64) := eqB (e.at 1 _ rfl rfl) rfl
  rw [b, n1 e h]
theorem m3 {τ : Sig} (e : Eqs τ 1 wl11G) (h : Nl τ) : τ.bval 3 = decide (τ.ival 0 % 4611686018427387904 < 16384) := by
  have b : τ.bval 3 = decide (τ.ival 1 < 16384) := eqB (e.at 2 _ rfl rfl) rfl
  rw [b, n1 e h]
theorem m4 {τ : Sig} (e : Eqs τ 1 wl11G) (h : Nl τ) : τ.bval 4 = decide (τ.ival 0 % 4611686018427387904 < 1073741824) := by
  have b : τ.bval 4 = decide (τ.ival 1 < 1073741824) := eqB (e.at 3 _ rfl rfl) rfl
  rw [b, n1 e h]
theorem n5 {τ : Sig} (e : Eqs τ 1 wl11G) (h : Nl τ) : τ.ival 5 = (τ.ival 0 % 4611686018427387904) / 1 % 256 := by
  have a := n1 e h
  have z := h.n0
  have b : τ.ival 5 = ((τ.ival 1 : Int).tmod 256) := eqI (e.at 4 _ rfl rfl) rfl
  rw [Int.tmod_eq_emod_of_nonneg (by omega)] at b
  omega
theorem n6 {τ : Sig} (e : Eqs τ 1 wl11G) (h : Nl τ) : τ.ival 6 = (τ.ival 0 % 4611686018427387904) / 1 % 256 := by
  have a := n5 e h
  have b : τ.ival 6 = IntKind.u8.wrap (τ.ival 5) := eqI (e.at 5 _ rfl rfl) rfl
  rw [wr_u8] at b
  omega
theorem n8 {τ : Sig} (e : Eqs τ 1 wl11G) (h : Nl τ) : τ.ival 8 = (τ.ival 0 % 4611686018427387904) / 256 := by
  have a := n1 e h
  have z := h.n0
  have b : τ.ival 8 = IntKind.u64.wrap ((τ.ival 1 : Int).tdiv 256) := eqI (e.at 7 _ rfl rfl) rfl
  rw [wr_u64, Int.tdiv_eq_ediv_of_nonneg (by omega)] at b
  omega
theorem n9 {τ : Sig} (e : Eqs τ 1 wl11G) (h : Nl τ) (hm : (τ.ival 0 % 4611686018427387904) / 1 < 64) : τ.ival 9 = (τ.ival 0 % 4611686018427387904) / 1 + 0 := by
  have a := n6 e h
  have z := h.n0
  have b : τ.ival 9 = IntKind.u8.wrap (τ.ival 6 + 0) := eqI (e.at 8 _ rfl rfl) rfl
  rw [wr_u8] at b
  omega
theorem n15 {τ : Sig} (e : Eqs τ 1 wl11G) (h : Nl τ) : τ.ival 15 = (τ.ival 0 % 4611686018427387904) / 256 % 256 := by
  have a := n8 e h
  have z := h.n0
  have b : τ.ival 15 = ((τ.ival 8 : Int).tmod 256) := eqI (e.at 14 _ rfl rfl) rfl
  rw [Int.tmod_eq_emod_of_nonneg (by omega)] at b
  omega
theorem n16 {τ : Sig} (e : Eqs τ 1 wl11G) (h : Nl τ) : τ.ival 16 = (τ.ival 0 % 4611686018427387904) / 256 % 256 := by
  have a := n15 e h
  have b : τ.ival 16 = IntKind.u8.wrap (τ.ival 15) := eqI (e.at 15 _ rfl rfl) rfl
  rw [wr_u8] at b
  omega
theorem n19 {τ : Sig} (e : Eqs τ 1 wl11G) (h : Nl τ) : τ.ival 19 = (τ.ival 0 % 4611686018427387904) / 65536 := by
  have a := n8 e h
  have z := h.n0
  have b : τ.ival 19 = IntKind.u64.wrap ((τ.ival 8 : Int).tdiv 256) := eqI (e.at 18 _ rfl rfl) rfl
  rw [wr_u64, Int.tdiv_eq_ediv_of_nonneg (by omega)] at b
  omega
theorem n20 {τ : Sig} (e : Eqs τ 1 wl11G) (h : Nl τ) (hm : (τ.ival 0 % 4611686018427387904) / 256 < 64) : τ.ival 20 = (τ.ival 0 % 4611686018427387904) / 256 + 64 := by
  have a := n16 e h
  have z := h.n0
  have b : τ.ival 20 = IntKind.u8.wrap (τ.ival 16 + 64) := eqI (e.at 19 _ rfl rfl) rfl
  rw [wr_u8] at b
  omega
theorem n26 {τ : Sig} (e : Eqs τ 1 wl11G) (h : Nl τ) : τ.ival 26 = (τ.ival 0 % 4611686018427387904) / 65536 % 256 := by
  have a := n19 e h
  have z := h.n0
  have b : τ.ival 26 = ((τ.ival 19 : Int).tmod 256) := eqI (e.at 25 _ rfl rfl) rfl
  rw [Int.tmod_eq_emod_of_nonneg (by omega)] at b
  omega
theorem n27 {τ : Sig} (e : Eqs τ 1 wl11G) (h : Nl τ) : τ.ival 27 = (τ.ival 0 % 4611686018427387904) / 65536 % 256 := by
  have a := n26 e h
  have b : τ.ival 27 = IntKind.u8.wrap (τ.ival 26) := eqI (e.at 26 _ rfl rfl) rfl
  rw [wr_u8] at b
  omega
theorem n30 {τ : Sig} (e : Eqs τ 1 wl11G) (h : Nl τ) : τ.ival 30 = (τ.ival 0 % 4611686018427387904) / 16777216 := by
  have a := n19 e h
  have z := h.n0
  have b : τ.ival 30 = IntKind.u64.wrap ((τ.ival 19 : Int).tdiv 256) := eqI (e.at 29 _ rfl rfl) rfl
  rw [wr_u64, Int.tdiv_eq_ediv_of_nonneg (by omega)] at b
  omega
theorem n31 {τ : Sig} (e : Eqs τ 1 wl11G) (h : Nl τ) : τ.ival 31 = (τ.ival 0 % 4611686018427387904) / 16777216 % 256 := by
  have a := n30 e h
  have z := h.n0
  have b : τ.ival 31 = ((τ.ival 30 : Int).tmod 256) := eqI (e.at 30 _ rfl rfl) rfl
  rw [Int.tmod_eq_emod_of_nonneg (by omega)] at b
  omega
theorem n32 {τ : Sig} (e : Eqs τ 1 wl11G) (h : Nl τ) : τ.ival 32 = (τ.ival 0 % 4611686018427387904) / 16777216 % 256 := by
  have a := n31 e h
  have b : τ.ival 32 = IntKind.u8.wrap (τ.ival 31) := eqI (e.at 31 _ rfl rfl) rfl
  rw [wr_u8] at b
  omega
theorem n35 {τ : Sig} (e : Eqs τ 1 wl11G) (h : Nl τ) : τ.ival 35 = (τ.ival 0 % 4611686018427387904) / 4294967296 := by
  have a := n30 e h
  have z := h.n0
  have b : τ.ival 35 = IntKind.u64.wrap ((τ.ival 30 : Int).tdiv 256) := eqI (e.at 34 _ rfl rfl) rfl
  rw [wr_u64, Int.tdiv_eq_ediv_of_nonneg (by omega)] at b
  omega
theorem n36 {τ : Sig} (e : Eqs τ 1 wl11G) (h : Nl τ) (hm : (τ.ival 0 % 4611686018427387904) / 16777216 < 64) : τ.ival 36 = (τ.ival 0 % 4611686018427387904) / 16777216 + 128 := by
  have a := n32 e h
  have z := h.n0
  have b : τ.ival 36 = IntKind.u8.wrap (τ.ival 32 + 128) := eqI (e.at 35 _ rfl rfl) rfl
  rw [wr_u8] at b
  omega
theorem n42 {τ : Sig} (e : Eqs τ 1 wl11G) (h : Nl τ) : τ.ival 42 = (τ.ival 0 % 4611686018427387904) / 4294967296 % 256 := by
  have a := n35 e h
  have z := h.n0
  have b : τ.ival 42 = ((τ.ival 35 : Int).tmod 256) := eqI (e.at 41 _ rfl rfl) rfl
  rw [Int.tmod_eq_emod_of_nonneg (by omega)] at b
  omega
theorem n43 {τ : Sig} (e : Eqs τ 1 wl11G) (h : Nl τ) : τ.ival 43 = (τ.ival 0 % 4611686018427387904) / 4294967296 % 256 := by
  have a := n42 e h
  have b : τ.ival 43 = IntKind.u8.wrap (τ.ival 42) := eqI (e.at 42 _ rfl rfl) rfl
  rw [wr_u8] at b
  omega
theorem n46 {τ : Sig} (e : Eqs τ 1 wl11G) (h : Nl τ) : τ.ival 46 = (τ.ival 0 % 4611686018427387904) / 1099511627776 := by
  have a := n35 e h
  have z := h.n0
  have b : τ.ival 46 = IntKind.u64.wrap ((τ.ival 35 : Int).tdiv 256) := eqI (e.at 45 _ rfl rfl) rfl
  rw [wr_u64, Int.tdiv_eq_ediv_of_nonneg (by omega)] at b
  omega
theorem n47 {τ : Sig} (e : Eqs τ 1 wl11G) (h : Nl τ) : τ.ival 47 = (τ.ival 0 % 4611686018427387904) / 1099511627776 % 256 := by
  have a := n46 e h
  have z := h.n0
  have b : τ.ival 47 = ((τ.ival 46 : Int).tmod 256) := eqI (e.at 46 _ rfl rfl) rfl
  rw [Int.tmod_eq_emod_of_nonneg (by omega)] at b
  omega
theorem n48 {τ : Sig} (e : Eqs τ 1 wl11G) (h : Nl τ) : τ.ival 48 = (τ.ival 0 % 4611686018427387904) / 1099511627776 % 256 := by
  have a := n47 e h
  have b : τ.ival 48 = IntKind.u8.wrap (τ.ival 47) := eqI (e.at 47 _ rfl rfl) rfl
  rw [wr_u8] at b
  omega
theorem n51 {τ : Sig} (e : Eqs τ 1 wl11G) (h : Nl τ) : τ.ival 51 = (τ.ival 0 % 4611686018427387904) / 281474976710656 := by
  have a := n46 e h
  have z := h.n0
  have b : τ.ival 51 = IntKind.u64.wrap ((τ.ival 46 : Int).tdiv 256) := eqI (e.at 50 _ rfl rfl) rfl
  rw [wr_u64, Int.tdiv_eq_ediv_of_nonneg (by omega)] at b
  omega
theorem n52 {τ : Sig} (e : Eqs τ 1 wl11G) (h : Nl τ) : τ.ival 52 = (τ.ival 0 % 4611686018427387904) / 281474976710656 % 256 := by
  have a := n51 e h
  have z := h.n0
  have b : τ.ival 52 = ((τ.ival 51 : Int).tmod 256) := eqI (e.at 51 _ rfl rfl) rfl
  rw [Int.tmod_eq_emod_of_nonneg (by omega)] at b
  omega
theorem n53 {τ : Sig} (e : Eqs τ 1 wl11G) (h : Nl τ) : τ.ival 53 = (τ.ival 0 % 4611686018427387904) / 281474976710656 % 256 := by
  have a := n52 e h
  have b : τ.ival 53 = IntKind.u8.wrap (τ.ival 52) := eqI (e.at 52 _ rfl rfl) rfl
  rw [wr_u8] at b
  omega
theorem n56 {τ : Sig} (e : Eqs τ 1 wl11G) (h : Nl τ) : τ.ival 56 = (τ.ival 0 % 4611686018427387904) / 72057594037927936 := by
  have a := n51 e h
  have z := h.n0
  have b : τ.ival 56 = IntKind.u64.wrap ((τ.ival 51 : Int).tdiv 256) := eqI (e.at 55 _ rfl rfl) rfl
  rw [wr_u64, Int.tdiv_eq_ediv_of_nonneg (by omega)] at b
  omega
theorem n57 {τ : Sig} (e : Eqs τ 1 wl11G) (h : Nl τ) : τ.ival 57 = (τ.ival 0 % 4611686018427387904) / 72057594037927936 % 256 := by
  have a := n56 e h
  have z := h.n0
  have b : τ.ival 57 = ((τ.ival 56 : Int).tmod 256) := eqI (e.at 56 _ rfl rfl) rfl
  rw [Int.tmod_eq_emod_of_nonneg (by omega)] at b
  omega
theorem n58 {τ : Sig} (e : Eqs τ 1 wl11G) (h : Nl τ) : τ.ival 58 = (τ.ival 0 % 4611686018427387904) / 72057594037927936 % 256 := by
  have a := n57 e h
  have b : τ.ival 58 = IntKind.u8.wrap (τ.ival 57) := eqI (e.at 57 _ rfl rfl) rfl
  rw [wr_u8] at b
  omega
theorem n61 {τ : Sig} (e : Eqs τ 1 wl11G) (h : Nl τ) : τ.ival 61 = (τ.ival 0 % 4611686018427387904) / 18446744073709551616 := by
  have a := n56 e h
  have z := h.n0
  have b : τ.ival 61 = IntKind.u64.wrap ((τ.ival 56 : Int).tdiv 256) := eqI (e.at 60 _ rfl rfl) rfl
  rw [wr_u64, Int.tdiv_eq_ediv_of_nonneg (by omega)] at b
  omega
theorem n62 {τ : Sig} (e : Eqs τ 1 wl11G) (h : Nl τ) (hm : (τ.ival 0 % 4611686018427387904) / 72057594037927936 < 64) : τ.ival 62 = (τ.ival 0 % 4611686018427387904) / 72057594037927936 + 192 := by
  have a := n58 e h
  have z := h.n0
  have b : τ.ival 62 = IntKind.u8.wrap (τ.ival 58 + 192) := eqI (e.at 61 _ rfl rfl) rfl
  rw [wr_u8] at b
  omega
theorem x10 {τ : Sig} (e : Eqs τ 1 wl11G) (h : Nl τ) (h1 : 0 ≤ τ.ival 0 % 4611686018427387904) (h2 : τ.ival 0 % 4611686018427387904 < 64) : τ.sval 10 = bs (pbL (τ.ival 0)) := by
  have a : τ.sval 10 = bs [τ.ival 9] := eqText (e.at 9 _ rfl rfl)
  have b0 := n9 e h (by omega)
  rw [a, b0]
  unfold pbL pbM
  repeat (first | rw [if_pos (by omega)] | rw [if_neg (by omega)])
  try simp only [Int.ediv_one, Int.add_zero]
theorem x22 {τ : Sig} (e : Eqs τ 1 wl11G) (h : Nl τ) (h1 : 64 ≤ τ.ival 0 % 4611686018427387904) (h2 : τ.ival 0 % 4611686018427387904 < 16384) : τ.sval 22 = bs (pbL (τ.ival 0)) := by
  have a : τ.sval 22 = bs [τ.ival 20, τ.ival 6] := eqText (e.at 21 _ rfl rfl)
  have b0 := n20 e h (by omega)
  have b1 := n6 e h
  rw [a, b0, b1]
  unfold pbL pbM
  repeat (first | rw [if_pos (by omega)] | rw [if_neg (by omega)])
  try simp only [Int.ediv_one, Int.add_zero]
theorem x38 {τ : Sig} (e : Eqs τ 1 wl11G) (h : Nl τ) (h1 : 16384 ≤ τ.ival 0 % 4611686018427387904) (h2 : τ.ival 0 % 4611686018427387904 < 1073741824) : τ.sval 38 = bs (pbL (τ.ival 0)) := by
  have a : τ.sval 38 = bs [τ.ival 36, τ.ival 27, τ.ival 16, τ.ival 6] := eqText (e.at 37 _ rfl rfl)
  have b0 := n36 e h (by omega)
  have b1 := n27 e h
  have b2 := n16 e h
  have b3 := n6 e h
  rw [a, b0, b1, b2, b3]
  unfold pbL pbM
  repeat (first | rw [if_pos (by omega)] | rw [if_neg (by omega)])
  try simp only [Int.ediv_one, Int.add_zero]
theorem x64 {τ : Sig} (e : Eqs τ 1 wl11G) (h : Nl τ) (h1 : 1073741824 ≤ τ.ival 0 % 4611686018427387904) (h2 : τ.ival 0 % 4611686018427387904 < 4611686018427387904) : τ.sval 64 = bs (pbL (τ.ival 0)) := by
  have a : τ.sval 64 = bs [τ.ival 62, τ.ival 53, τ.ival 48, τ.ival 43, τ.ival 32, τ.ival 27, τ.ival 16, τ.ival 6] := eqText (e.at 63 _ rfl rfl)
  have b0 := n62 e h (by omega)
  have b1 := n53 e h
  have b2 := n48 e h
  have b3 := n43 e h
  have b4 := n32 e h
  have b5 := n27 e h
  have b6 := n16 e h
  have b7 := n6 e h
  rw [a, b0, b1, b2, b3, b4, b5, b6, b7]
  unfold pbL pbM
  rw [if_neg (by omega), if_neg (by omega), if_neg (by omega)]
  try simp only [Int.ediv_one, Int.add_zero]

theorem E11 {g : Inj} {w : World} {τ : Sig} {l : Asg} {hH : HRel (cx0 wlTab) g sf11.pre w} {hg : g.sig.tab = wlTab} (h : DenEq (asgS τ l) g.sig [(1, .syms 1)]) (hx : τ.ext = g.sig.ext) :
    EndZ wlTab 44 (fraOf g w sf11.pre.length) (bodyPost Tryd.prog Tryd.f11 (MemR wlTab sf11 g w)) .ret wlE11 (asgS τ l) :=
  endZ_mem (M := 2) (vs := [.syms 1]) (by kernel_rfl) rfl rfl hH hg rfl rfl rfl (by kernel_rfl) (by kernel_rfl) h (Nat.zero_le _) hx (.inl rfl)
set_option maxHeartbeats 0 in
theorem wl11_contract : SymFOk Tryd.prog wlTab (fun _ => True) sf11 :=
  symF_of_stage Tryd.func11 rfl (n := 44) rfl (by decide) (by decide) rfl rfl (by kernel_rfl) (fun g w hg hv hE hI hpc hH => by
    refine Stage.lastI mixed wl11_seg ⟨rfl, rfl⟩ (fun σ τ ag h => h.trans' ag) (fun τ h => rows_nil) (fun τ h => trivial) (fun τ e ht hi ag => ?_) ?_
    · have hx : τ.ext = g.sig.ext := ag.ext.symm
      have i0 := hi 0 .u64 (by decide) rfl
      rw [wr_u64] at i0
      have a0 := (ag.val 0 (by decide)).1
      have hp : Nl τ := ⟨by omega, by omega⟩
      have gg : g.sig.sval 1 = bs (pbL (τ.ival 0)) := by
        have h3 : g.sig.sval 1 = decS (g.sig.tab 140 [g.sig.ival 0]) := eqFs (hE.at 0 _ rfl rfl)
        rw [hg, tab_s, a0] at h3; exact h3
      refine segsPw_segs ?_
      exact ⟨fun f0 => (by have g2 := m2 e hp; rw [f0] at g2; have g2 := of_decide_eq_true g2.symm; have ss := x10 e hp (by omega) (by omega); exact E11 (hH := hH) (hg := hg) ⟨(show AVal.str (τ.sval 10) = .str (g.sig.sval 1) by rw [gg, ss]), trivial⟩ hx),
 fun f0 => ⟨fun f1 => (by have g2 := m2 e hp; rw [f0] at g2; have g2 := of_decide_eq_false g2.symm; have g3 := m3 e hp; rw [f1] at g3; have g3 := of_decide_eq_true g3.symm; have ss := x22 e hp (by omega) (by omega); exact E11 (hH := hH) (hg := hg) ⟨(show AVal.str (τ.sval 22) = .str (g.sig.sval 1) by rw [gg, ss]), trivial⟩ hx),
 fun f1 => ⟨fun f2 => (by have g2 := m2 e hp; rw [f0] at g2; have g2 := of_decide_eq_false g2.symm; have g3 := m3 e hp; rw [f1] at g3; have g3 := of_decide_eq_false g3.symm; have g4 := m4 e hp; rw [f2] at g4; have g4 := of_decide_eq_true g4.symm; have ss := x38 e hp (by omega) (by omega); exact E11 (hH := hH) (hg := hg) ⟨(show AVal.str (τ.sval 38) = .str (g.sig.sval 1) by rw [gg, ss]), trivial⟩ hx),
 fun f2 => (by have g2 := m2 e hp; rw [f0] at g2; have g2 := of_decide_eq_false g2.symm; have g3 := m3 e hp; rw [f1] at g3; have g3 := of_decide_eq_false g3.symm; have g4 := m4 e hp; rw [f2] at g4; have g4 := of_decide_eq_false g4.symm; have ss := x64 e hp (by omega) (by omega); exact E11 (hH := hH) (hg := hg) ⟨(show AVal.str (τ.sval 64) = .str (g.sig.sval 1) by rw [gg, ss]), trivial⟩ hx)⟩⟩⟩
    · intro i hi
      exact absurd (by show (if i < 0 then some (g.loc i) else none) = none; rw [if_neg (Nat.not_lt_zero i)]) hi)
end Go.Proofs.YtapfkgenachpgaaDoor.wl
