/- a byte of a line that changes costs the block of this line alone This text holds the functions' walks and the words for them. -/
import Derived.Test.YtjebkmfljcanlaaDoorKFnSalvagea
import Derived.Test.YtjebkmfljcanlaaDoorKFnSalvaged
import Derived.Test.YtjebkmfljcanlaaDoorKFnSalvageb
import Derived.Test.YtjebkmfljcanlaaDoorKFnSalvagec
set_option linter.unusedVariables false
set_option linter.unusedSimpArgs false
namespace Go.Proofs.YtjebkmfljcanlaaDoor.Q
open Go.RowKit Go.Proofs.YtjebkmfljcanlaaDoorW.PrintWords Go.Proofs.YtjebkmfljcanlaaDoorW.PrintLast Go.Proofs.YtjebkmfljcanlaaDoorW.PrintMore
attribute [local go_sem] aM_ aN_ be_ bc_ aC_ aD_ aL_ aK_
def bg_.l0 : Nat → List (S97) → ByteArray → Int → Option (ByteArray)
 | 0, _, _, _ => none
 | k + 1, x0, x3, x4 => if 0 < (x0.length : Int) then (if x4 < (((am_ x0 0).f6).length : Int) then (if 0 ≤ x4 then ((bC_.f k (([(bQ_ ((am_ x0 0).f6) x4).f0, (bQ_ ((am_ x0 0).f6) x4).f1, (bQ_ ((am_ x0 0).f6) x4).f2, (bQ_ ((am_ x0 0).f6) x4).f3] : List Int))).bind fun t118 => (if 1 + t118.size ≤ 9223372036854775807 then (if x3.size + (1 + t118.size) ≤ 9223372036854775807 then (bg_.l0 k x0 (x3 ++ ((⟨#[47]⟩ : ByteArray) ++ t118)) (wrap64 (x4 + 1))) else (none)) else (none))) else (none)) else (some x3)) else (none)
def bg_.f (k : Nat) (l0 : List (S97)) : Option (ByteArray) := if 0 < (l0.length : Int) then (if ((am_ l0 0).f0).size + 1 ≤ 9223372036854775807 then (if ((am_ l0 0).f0).size + 1 + ((am_ l0 0).f1).size ≤ 9223372036854775807 then (if ((am_ l0 0).f0).size + 1 + ((am_ l0 0).f1).size + 1 ≤ 9223372036854775807 then ((au_.f k ((am_ l0 0).f2)).bind fun t104 => (if ((am_ l0 0).f0).size + 1 + ((am_ l0 0).f1).size + 1 + t104.size ≤ 9223372036854775807 then (if ((am_ l0 0).f0).size + 1 + ((am_ l0 0).f1).size + 1 + t104.size + 1 ≤ 9223372036854775807 then ((bJ_.f k [(am_ l0 0).f3]).bind fun t106 => (if ((am_ l0 0).f0).size + 1 + ((am_ l0 0).f1).size + 1 + t104.size + 1 + t106.size ≤ 9223372036854775807 then (if ((am_ l0 0).f0).size + 1 + ((am_ l0 0).f1).size + 1 + t104.size + 1 + t106.size + 1 ≤ 9223372036854775807 then ((au_.f k ((am_ l0 0).f4)).bind fun t108 => (if ((am_ l0 0).f0).size + 1 + ((am_ l0 0).f1).size + 1 + t104.size + 1 + t106.size + 1 + t108.size ≤ 9223372036854775807 then (if ((am_ l0 0).f0).size + 1 + ((am_ l0 0).f1).size + 1 + t104.size + 1 + t106.size + 1 + t108.size + 1 ≤ 9223372036854775807 then ((au_.f k ((am_ l0 0).f5)).bind fun t110 => (if ((am_ l0 0).f0).size + 1 + ((am_ l0 0).f1).size + 1 + t104.size + 1 + t106.size + 1 + t108.size + 1 + t110.size ≤ 9223372036854775807 then (bg_.l0 k l0 ((((((((((((am_ l0 0).f0) ++ (⟨#[47]⟩ : ByteArray)) ++ ((am_ l0 0).f1)) ++ (⟨#[47]⟩ : ByteArray)) ++ t104) ++ (⟨#[47]⟩ : ByteArray)) ++ t106) ++ (⟨#[47]⟩ : ByteArray)) ++ t108) ++ (⟨#[120]⟩ : ByteArray)) ++ t110) 0) else (none))) else (none)) else (none))) else (none)) else (none))) else (none)) else (none))) else (none)) else (none)) else (none)) else (none)
def bg_.T1 : Bool × List (List Nat × List Nat) := (true, [([], []), ([0], [0]), ([1], [1]), ([2], [2]), ([3], [3]), ([], []), ([5], [5]), ([6], [6]), ([7], [7]), ([4, 8], [4, 8]), ([9], [9]), ([], []), ([11], [11]), ([12], [12]), ([13], [13]), ([14], [14]), ([10, 15], [10, 15]), ([16], [16]), ([], []), ([18], [18]), ([19], [19]), ([20, 15], [20]), ([17, 21], [17, 21]), ([22], [22]), ([], []), ([24], [24]), ([25], [25]), ([26], [26]), ([27, 21], [27]), ([23, 28], [23, 28]), ([29], [29]), ([], []), ([31], [31]), ([32], [32]), ([33], [33]), ([34, 28], [34]), ([30, 35], [30, 35]), ([36, 35, 0, 1, 2, 3, 4, 5, 6, 7, 8, 9, 10, 11, 12, 13, 14, 15, 16, 17, 18, 19, 20, 21, 22, 23, 24, 25, 26, 27, 28, 29, 30, 31, 32, 33, 34, 35, 36], [36])])
def bg_.B1 : List Nat := [0, 1, 3, 7, 15, 0, 32, 96, 224, 511, 1023, 0, 2048, 6144, 14336, 30720, 65535, 131071, 0, 262144, 786432, 1898496, 4194303, 8388607, 0, 16777216, 50331648, 117440512, 255653888, 536870911, 1073741823, 0, 2147483648, 6442450944, 15032385536, 32736344064, 68719476735, 137438953471]
theorem bg_.tab1 : rtab .any (opsOf Tryd.f88 1) = bg_.T1 := by kernel_rfl
theorem bg_.bits1 : cE_ bg_.T1.2 bg_.B1 = true := by kernel_rfl
set_option maxHeartbeats 8000000 in
set_option maxRecDepth 100000 in
theorem bg_.calls (k : Nat) (A0 : Option Addr) (l0 : List (S97)) (r : ByteArray) (w : World) (hr0 : Kd.C k97 w A0 l0.length l0) (h : bg_.f k l0 = some r) :
  Calls Tryd.prog 88 #[.pointer A0] w fun e w' => e = .returned (.string r) ∧ Below w.heap.size w w' := by
 have hu107 := Tryd.underlying107
 have HR0 := Aside0.mk hr0
 clear hr0
 have HB := Aside0.mk (Below.refl w.heap.size w)
 have H : (if 0 < (l0.length : Int) then (if ((am_ l0 0).f0).size + 1 ≤ 9223372036854775807 then (if ((am_ l0 0).f0).size + 1 + ((am_ l0 0).f1).size ≤ 9223372036854775807 then (if ((am_ l0 0).f0).size + 1 + ((am_ l0 0).f1).size + 1 ≤ 9223372036854775807 then ((au_.f k ((am_ l0 0).f2)).bind fun t104 => (if ((am_ l0 0).f0).size + 1 + ((am_ l0 0).f1).size + 1 + t104.size ≤ 9223372036854775807 then (if ((am_ l0 0).f0).size + 1 + ((am_ l0 0).f1).size + 1 + t104.size + 1 ≤ 9223372036854775807 then ((bJ_.f k [(am_ l0 0).f3]).bind fun t106 => (if ((am_ l0 0).f0).size + 1 + ((am_ l0 0).f1).size + 1 + t104.size + 1 + t106.size ≤ 9223372036854775807 then (if ((am_ l0 0).f0).size + 1 + ((am_ l0 0).f1).size + 1 + t104.size + 1 + t106.size + 1 ≤ 9223372036854775807 then ((au_.f k ((am_ l0 0).f4)).bind fun t108 => (if ((am_ l0 0).f0).size + 1 + ((am_ l0 0).f1).size + 1 + t104.size + 1 + t106.size + 1 + t108.size ≤ 9223372036854775807 then (if ((am_ l0 0).f0).size + 1 + ((am_ l0 0).f1).size + 1 + t104.size + 1 + t106.size + 1 + t108.size + 1 ≤ 9223372036854775807 then ((au_.f k ((am_ l0 0).f5)).bind fun t110 => (if ((am_ l0 0).f0).size + 1 + ((am_ l0 0).f1).size + 1 + t104.size + 1 + t106.size + 1 + t108.size + 1 + t110.size ≤ 9223372036854775807 then (bg_.l0 k l0 ((((((((((((am_ l0 0).f0) ++ (⟨#[47]⟩ : ByteArray)) ++ ((am_ l0 0).f1)) ++ (⟨#[47]⟩ : ByteArray)) ++ t104) ++ (⟨#[47]⟩ : ByteArray)) ++ t106) ++ (⟨#[47]⟩ : ByteArray)) ++ t108) ++ (⟨#[120]⟩ : ByteArray)) ++ t110) 0) else (none))) else (none)) else (none))) else (none)) else (none))) else (none)) else (none))) else (none)) else (none)) else (none)) else (none)) = some r := h
 clear h
 by_cases c2 : 0 < (l0.length : Int)
 rotate_left
 ·rw [if_neg c2] at H
  exact absurd H (by simp)
 rw [if_pos c2] at H
 have c2b0 : decide (0 < (l0.length : Int)) = true := decide_eq_true c2
 have c2b1 : decide (0 < l0.length) = true := decide_eq_true (by omega)
 clear c2
 by_cases c3 : ((am_ l0 0).f0).size + 1 ≤ 9223372036854775807
 rotate_left
 ·rw [if_neg c3] at H
  exact absurd H (by simp)
 rw [if_pos c3] at H
 have c3b0 := eq_true c3
 have c3b1 : decide (((am_ l0 0).f0).size + 1 ≤ 9223372036854775807) = true := decide_eq_true c3
 try have c3b2 : (9223372036854775807 < ((am_ l0 0).f0).size + 1) = False := eq_false (Nat.not_lt.2 c3)
 by_cases c4 : ((am_ l0 0).f0).size + 1 + ((am_ l0 0).f1).size ≤ 9223372036854775807
 rotate_left
 ·rw [if_neg c4] at H
  exact absurd H (by simp)
 rw [if_pos c4] at H
 have c4b0 := eq_true c4
 have c4b1 : decide (((am_ l0 0).f0).size + 1 + ((am_ l0 0).f1).size ≤ 9223372036854775807) = true := decide_eq_true c4
 try have c4b2 : (9223372036854775807 < ((am_ l0 0).f0).size + 1 + ((am_ l0 0).f1).size) = False := eq_false (Nat.not_lt.2 c4)
 by_cases c5 : ((am_ l0 0).f0).size + 1 + ((am_ l0 0).f1).size + 1 ≤ 9223372036854775807
 rotate_left
 ·rw [if_neg c5] at H
  exact absurd H (by simp)
 rw [if_pos c5] at H
 have c5b0 := eq_true c5
 have c5b1 : decide (((am_ l0 0).f0).size + 1 + ((am_ l0 0).f1).size + 1 ≤ 9223372036854775807) = true := decide_eq_true c5
 try have c5b2 : (9223372036854775807 < ((am_ l0 0).f0).size + 1 + ((am_ l0 0).f1).size + 1) = False := eq_false (Nat.not_lt.2 c5)
 replace H := Option.bind_eq_some_iff.mp H
 obtain ⟨t104, A60, H⟩ := H
 (try dsimp only at H)
 have A6 := Aside0.mk A60
 clear A60
 by_cases c7 : ((am_ l0 0).f0).size + 1 + ((am_ l0 0).f1).size + 1 + t104.size ≤ 9223372036854775807
 rotate_left
 ·rw [if_neg c7] at H
  exact absurd H (by simp)
 rw [if_pos c7] at H
 have c7b0 := eq_true c7
 have c7b1 : decide (((am_ l0 0).f0).size + 1 + ((am_ l0 0).f1).size + 1 + t104.size ≤ 9223372036854775807) = true := decide_eq_true c7
 try have c7b2 : (9223372036854775807 < ((am_ l0 0).f0).size + 1 + ((am_ l0 0).f1).size + 1 + t104.size) = False := eq_false (Nat.not_lt.2 c7)
 by_cases c8 : ((am_ l0 0).f0).size + 1 + ((am_ l0 0).f1).size + 1 + t104.size + 1 ≤ 9223372036854775807
 rotate_left
 ·rw [if_neg c8] at H
  exact absurd H (by simp)
 rw [if_pos c8] at H
 have c8b0 := eq_true c8
 have c8b1 : decide (((am_ l0 0).f0).size + 1 + ((am_ l0 0).f1).size + 1 + t104.size + 1 ≤ 9223372036854775807) = true := decide_eq_true c8
 try have c8b2 : (9223372036854775807 < ((am_ l0 0).f0).size + 1 + ((am_ l0 0).f1).size + 1 + t104.size + 1) = False := eq_false (Nat.not_lt.2 c8)
 replace H := Option.bind_eq_some_iff.mp H
 obtain ⟨t106, A90, H⟩ := H
 (try dsimp only at H)
 have A9 := Aside0.mk A90
 clear A90
 by_cases c10 : ((am_ l0 0).f0).size + 1 + ((am_ l0 0).f1).size + 1 + t104.size + 1 + t106.size ≤ 9223372036854775807
 rotate_left
 ·rw [if_neg c10] at H
  exact absurd H (by simp)
 rw [if_pos c10] at H
 have c10b0 := eq_true c10
 have c10b1 : decide (((am_ l0 0).f0).size + 1 + ((am_ l0 0).f1).size + 1 + t104.size + 1 + t106.size ≤ 9223372036854775807) = true := decide_eq_true c10
 try have c10b2 : (9223372036854775807 < ((am_ l0 0).f0).size + 1 + ((am_ l0 0).f1).size + 1 + t104.size + 1 + t106.size) = False := eq_false (Nat.not_lt.2 c10)
 by_cases c11 : ((am_ l0 0).f0).size + 1 + ((am_ l0 0).f1).size + 1 + t104.size + 1 + t106.size + 1 ≤ 9223372036854775807
 rotate_left
 ·rw [if_neg c11] at H
  exact absurd H (by simp)
 rw [if_pos c11] at H
 have c11b0 := eq_true c11
 have c11b1 : decide (((am_ l0 0).f0).size + 1 + ((am_ l0 0).f1).size + 1 + t104.size + 1 + t106.size + 1 ≤ 9223372036854775807) = true := decide_eq_true c11
 try have c11b2 : (9223372036854775807 < ((am_ l0 0).f0).size + 1 + ((am_ l0 0).f1).size + 1 + t104.size + 1 + t106.size + 1) = False := eq_false (Nat.not_lt.2 c11)
 replace H := Option.bind_eq_some_iff.mp H
 obtain ⟨t108, A120, H⟩ := H
 (try dsimp only at H)
 have A12 := Aside0.mk A120
 clear A120
 by_cases c13 : ((am_ l0 0).f0).size + 1 + ((am_ l0 0).f1).size + 1 + t104.size + 1 + t106.size + 1 + t108.size ≤ 9223372036854775807
 rotate_left
 ·rw [if_neg c13] at H
  exact absurd H (by simp)
 rw [if_pos c13] at H
 have c13b0 := eq_true c13
 have c13b1 : decide (((am_ l0 0).f0).size + 1 + ((am_ l0 0).f1).size + 1 + t104.size + 1 + t106.size + 1 + t108.size ≤ 9223372036854775807) = true := decide_eq_true c13
 try have c13b2 : (9223372036854775807 < ((am_ l0 0).f0).size + 1 + ((am_ l0 0).f1).size + 1 + t104.size + 1 + t106.size + 1 + t108.size) = False := eq_false (Nat.not_lt.2 c13)
 by_cases c14 : ((am_ l0 0).f0).size + 1 + ((am_ l0 0).f1).size + 1 + t104.size + 1 + t106.size + 1 + t108.size + 1 ≤ 9223372036854775807
 rotate_left
 ·rw [if_neg c14] at H
  exact absurd H (by simp)
 rw [if_pos c14] at H
 have c14b0 := eq_true c14
 have c14b1 : decide (((am_ l0 0).f0).size + 1 + ((am_ l0 0).f1).size + 1 + t104.size + 1 + t106.size + 1 + t108.size + 1 ≤ 9223372036854775807) = true := decide_eq_true c14
 try have c14b2 : (9223372036854775807 < ((am_ l0 0).f0).size + 1 + ((am_ l0 0).f1).size + 1 + t104.size + 1 + t106.size + 1 + t108.size + 1) = False := eq_false (Nat.not_lt.2 c14)
 replace H := Option.bind_eq_some_iff.mp H
 obtain ⟨t110, A150, H⟩ := H
 (try dsimp only at H)
 have A15 := Aside0.mk A150
 clear A150
 by_cases c16 : ((am_ l0 0).f0).size + 1 + ((am_ l0 0).f1).size + 1 + t104.size + 1 + t106.size + 1 + t108.size + 1 + t110.size ≤ 9223372036854775807
 rotate_left
 ·rw [if_neg c16] at H
  exact absurd H (by simp)
 rw [if_pos c16] at H
 have c16b0 := eq_true c16
 have c16b1 : decide (((am_ l0 0).f0).size + 1 + ((am_ l0 0).f1).size + 1 + t104.size + 1 + t106.size + 1 + t108.size + 1 + t110.size ≤ 9223372036854775807) = true := decide_eq_true c16
 try have c16b2 : (9223372036854775807 < ((am_ l0 0).f0).size + 1 + ((am_ l0 0).f1).size + 1 + t104.size + 1 + t106.size + 1 + t108.size + 1 + t110.size) = False := eq_false (Nat.not_lt.2 c16)
 have H' := Aside0.mk H
 clear H
 go_enter Tryd.func88, Tryd.ntmps88
 try go_wp2
 have n0_ := Aside0.mk (bD_ HB.out)
 clear HB
 have HB := n0_
 clear n0_
 have p101 : 0 ≤ (0 : Int) := (by omega)
 have q101 : 0 < (l0.length : Int) := of_decide_eq_true (by assumption)
 obtain ⟨ad101, A101_8, c101_8, e101, hx101_0, hx101_1, hx101_2, hx101_3, hx101_4, hx101_5, hx101_6, hx101_7, hx101_8, hl101_8, hi101_8⟩ := at_T97 HR0.out 0 p101 q101
 have hw101_8 := hx101_8
 (try simp only [Int.toNat_zero, Nat.zero_mul, Addr.add_zero'] at hw101_8)
 have hw101_7 := hx101_7
 (try simp only [Int.toNat_zero, Nat.zero_mul, Addr.add_zero'] at hw101_7)
 have hw101_6 := hx101_6
 (try simp only [Int.toNat_zero, Nat.zero_mul, Addr.add_zero'] at hw101_6)
 have hw101_5 := hx101_5
 (try simp only [Int.toNat_zero, Nat.zero_mul, Addr.add_zero'] at hw101_5)
 have hw101_4 := hx101_4
 (try simp only [Int.toNat_zero, Nat.zero_mul, Addr.add_zero'] at hw101_4)
 have hw101_3 := hx101_3
 (try simp only [Int.toNat_zero, Nat.zero_mul, Addr.add_zero'] at hw101_3)
 have hw101_2 := hx101_2
 (try simp only [Int.toNat_zero, Nat.zero_mul, Addr.add_zero'] at hw101_2)
 have hw101_1 := hx101_1
 (try simp only [Int.toNat_zero, Nat.zero_mul, Addr.add_zero'] at hw101_1)
 have hw101_0 := hx101_0
 (try simp only [Int.toNat_zero, Nat.zero_mul, Addr.add_zero'] at hw101_0)
 cases e101
 have qi101 : (0 < l0.length) = True := eq_true (by omega)
 (try simp only [Int.toNat_zero, Nat.zero_mul, Addr.add_zero'] at hx101_0 hx101_1)
 (try simp only [Int.toNat_zero, Nat.zero_mul, Addr.add_zero'] at hx101_2 hx101_3)
 (try simp only [Int.toNat_zero, Nat.zero_mul, Addr.add_zero'] at hx101_4 hx101_5)
 (try simp only [Int.toNat_zero, Nat.zero_mul, Addr.add_zero'] at hx101_6 hx101_7 hx101_8)
 replace hx101_0 := bu_ HB.out hx101_0
 replace hx101_1 := bu_ HB.out hx101_1
 replace hx101_2 := bu_ HB.out hx101_2
 replace hx101_3 := bu_ HB.out hx101_3
 replace hx101_4 := bu_ HB.out hx101_4
 replace hx101_5 := bu_ HB.out hx101_5
 replace hx101_6 := bu_ HB.out hx101_6
 replace hx101_7 := bu_ HB.out hx101_7
 replace hx101_8 := bu_ HB.out hx101_8
 have HR101_8 := Aside0.mk hi101_8
 have HC101_8 := Aside0.mk hl101_8
 clear hi101_8 hl101_8
 replace p101 := eq_true p101
 replace q101 := eq_true q101
 have p102 : 0 ≤ (0 : Int) := (by omega)
 have q102 : 0 < (l0.length : Int) := of_decide_eq_true (by assumption)
 obtain ⟨ad102, A102_8, c102_8, e102, hx102_0, hx102_1, hx102_2, hx102_3, hx102_4, hx102_5, hx102_6, hx102_7, hx102_8, hl102_8, hi102_8⟩ := at_T97 HR0.out 0 p102 q102
 have hw102_8 := hx102_8
 (try simp only [Int.toNat_zero, Nat.zero_mul, Addr.add_zero'] at hw102_8)
 have hw102_7 := hx102_7
 (try simp only [Int.toNat_zero, Nat.zero_mul, Addr.add_zero'] at hw102_7)
 have hw102_6 := hx102_6
 (try simp only [Int.toNat_zero, Nat.zero_mul, Addr.add_zero'] at hw102_6)
 have hw102_5 := hx102_5
 (try simp only [Int.toNat_zero, Nat.zero_mul, Addr.add_zero'] at hw102_5)
 have hw102_4 := hx102_4
 (try simp only [Int.toNat_zero, Nat.zero_mul, Addr.add_zero'] at hw102_4)
 have hw102_3 := hx102_3
 (try simp only [Int.toNat_zero, Nat.zero_mul, Addr.add_zero'] at hw102_3)
 have hw102_2 := hx102_2
 (try simp only [Int.toNat_zero, Nat.zero_mul, Addr.add_zero'] at hw102_2)
 have hw102_1 := hx102_1
 (try simp only [Int.toNat_zero, Nat.zero_mul, Addr.add_zero'] at hw102_1)
 have hw102_0 := hx102_0
 (try simp only [Int.toNat_zero, Nat.zero_mul, Addr.add_zero'] at hw102_0)
 obtain rfl : ad101 = ad102 := (by injection e102)
 have qi102 : (0 < l0.length) = True := eq_true (by omega)
 (try simp only [Int.toNat_zero, Nat.zero_mul, Addr.add_zero'] at hx102_0 hx102_1)
 (try simp only [Int.toNat_zero, Nat.zero_mul, Addr.add_zero'] at hx102_2 hx102_3)
 (try simp only [Int.toNat_zero, Nat.zero_mul, Addr.add_zero'] at hx102_4 hx102_5)
 (try simp only [Int.toNat_zero, Nat.zero_mul, Addr.add_zero'] at hx102_6 hx102_7 hx102_8)
 replace hx102_0 := bu_ HB.out hx102_0
 replace hx102_1 := bu_ HB.out hx102_1
 replace hx102_2 := bu_ HB.out hx102_2
 replace hx102_3 := bu_ HB.out hx102_3
 replace hx102_4 := bu_ HB.out hx102_4
 replace hx102_5 := bu_ HB.out hx102_5
 replace hx102_6 := bu_ HB.out hx102_6
 replace hx102_7 := bu_ HB.out hx102_7
 replace hx102_8 := bu_ HB.out hx102_8
 have HR102_8 := Aside0.mk hi102_8
 have HC102_8 := Aside0.mk hl102_8
 clear hi102_8 hl102_8
 replace p102 := eq_true p102
 replace q102 := eq_true q102
 have ea_ := Option.some.inj (hx101_8.symm.trans hx102_8)
 injection ea_ with ea_ en_ ec_
 (try subst ea_)
 (try subst ec_)
 (try clear ea_ ec_)
 clear en_
 have p103 : 0 ≤ (0 : Int) := (by omega)
 have q103 : 0 < (l0.length : Int) := of_decide_eq_true (by assumption)
 obtain ⟨ad103, A103_8, c103_8, e103, hx103_0, hx103_1, hx103_2, hx103_3, hx103_4, hx103_5, hx103_6, hx103_7, hx103_8, hl103_8, hi103_8⟩ := at_T97 HR0.out 0 p103 q103
 have hw103_8 := hx103_8
 (try simp only [Int.toNat_zero, Nat.zero_mul, Addr.add_zero'] at hw103_8)
 have hw103_7 := hx103_7
 (try simp only [Int.toNat_zero, Nat.zero_mul, Addr.add_zero'] at hw103_7)
 have hw103_6 := hx103_6
 (try simp only [Int.toNat_zero, Nat.zero_mul, Addr.add_zero'] at hw103_6)
 have hw103_5 := hx103_5
 (try simp only [Int.toNat_zero, Nat.zero_mul, Addr.add_zero'] at hw103_5)
 have hw103_4 := hx103_4
 (try simp only [Int.toNat_zero, Nat.zero_mul, Addr.add_zero'] at hw103_4)
 have hw103_3 := hx103_3
 (try simp only [Int.toNat_zero, Nat.zero_mul, Addr.add_zero'] at hw103_3)
 have hw103_2 := hx103_2
 (try simp only [Int.toNat_zero, Nat.zero_mul, Addr.add_zero'] at hw103_2)
 have hw103_1 := hx103_1
 (try simp only [Int.toNat_zero, Nat.zero_mul, Addr.add_zero'] at hw103_1)
 have hw103_0 := hx103_0
 (try simp only [Int.toNat_zero, Nat.zero_mul, Addr.add_zero'] at hw103_0)
 obtain rfl : ad101 = ad103 := (by injection e103)
 have qi103 : (0 < l0.length) = True := eq_true (by omega)
 (try simp only [Int.toNat_zero, Nat.zero_mul, Addr.add_zero'] at hx103_0 hx103_1)
 (try simp only [Int.toNat_zero, Nat.zero_mul, Addr.add_zero'] at hx103_2 hx103_3)
 (try simp only [Int.toNat_zero, Nat.zero_mul, Addr.add_zero'] at hx103_4 hx103_5)
 (try simp only [Int.toNat_zero, Nat.zero_mul, Addr.add_zero'] at hx103_6 hx103_7 hx103_8)
 replace hx103_0 := bu_ HB.out hx103_0
 replace hx103_1 := bu_ HB.out hx103_1
 replace hx103_2 := bu_ HB.out hx103_2
 replace hx103_3 := bu_ HB.out hx103_3
 replace hx103_4 := bu_ HB.out hx103_4
 replace hx103_5 := bu_ HB.out hx103_5
 replace hx103_6 := bu_ HB.out hx103_6
 replace hx103_7 := bu_ HB.out hx103_7
 replace hx103_8 := bu_ HB.out hx103_8
 have HR103_8 := Aside0.mk hi103_8
 have HC103_8 := Aside0.mk hl103_8
 clear hi103_8 hl103_8
 replace p103 := eq_true p103
 replace q103 := eq_true q103
 have ea_ := Option.some.inj (hx101_8.symm.trans hx103_8)
 injection ea_ with ea_ en_ ec_
 (try subst ea_)
 (try subst ec_)
 (try clear ea_ ec_)
 clear en_
 have p105 : 0 ≤ (0 : Int) := (by omega)
 have q105 : 0 < (l0.length : Int) := of_decide_eq_true (by assumption)
 obtain ⟨ad105, A105_8, c105_8, e105, hx105_0, hx105_1, hx105_2, hx105_3, hx105_4, hx105_5, hx105_6, hx105_7, hx105_8, hl105_8, hi105_8⟩ := at_T97 HR0.out 0 p105 q105
 have hw105_8 := hx105_8
 (try simp only [Int.toNat_zero, Nat.zero_mul, Addr.add_zero'] at hw105_8)
 have hw105_7 := hx105_7
 (try simp only [Int.toNat_zero, Nat.zero_mul, Addr.add_zero'] at hw105_7)
 have hw105_6 := hx105_6
 (try simp only [Int.toNat_zero, Nat.zero_mul, Addr.add_zero'] at hw105_6)
 have hw105_5 := hx105_5
 (try simp only [Int.toNat_zero, Nat.zero_mul, Addr.add_zero'] at hw105_5)
 have hw105_4 := hx105_4
 (try simp only [Int.toNat_zero, Nat.zero_mul, Addr.add_zero'] at hw105_4)
 have hw105_3 := hx105_3
 (try simp only [Int.toNat_zero, Nat.zero_mul, Addr.add_zero'] at hw105_3)
 have hw105_2 := hx105_2
 (try simp only [Int.toNat_zero, Nat.zero_mul, Addr.add_zero'] at hw105_2)
 have hw105_1 := hx105_1
 (try simp only [Int.toNat_zero, Nat.zero_mul, Addr.add_zero'] at hw105_1)
 have hw105_0 := hx105_0
 (try simp only [Int.toNat_zero, Nat.zero_mul, Addr.add_zero'] at hw105_0)
 obtain rfl : ad101 = ad105 := (by injection e105)
 have qi105 : (0 < l0.length) = True := eq_true (by omega)
 (try simp only [Int.toNat_zero, Nat.zero_mul, Addr.add_zero'] at hx105_0 hx105_1)
 (try simp only [Int.toNat_zero, Nat.zero_mul, Addr.add_zero'] at hx105_2 hx105_3)
 (try simp only [Int.toNat_zero, Nat.zero_mul, Addr.add_zero'] at hx105_4 hx105_5)
 (try simp only [Int.toNat_zero, Nat.zero_mul, Addr.add_zero'] at hx105_6 hx105_7 hx105_8)
 replace hx105_0 := bu_ HB.out hx105_0
 replace hx105_1 := bu_ HB.out hx105_1
 replace hx105_2 := bu_ HB.out hx105_2
 replace hx105_3 := bu_ HB.out hx105_3
 replace hx105_4 := bu_ HB.out hx105_4
 replace hx105_5 := bu_ HB.out hx105_5
 replace hx105_6 := bu_ HB.out hx105_6
 replace hx105_7 := bu_ HB.out hx105_7
 replace hx105_8 := bu_ HB.out hx105_8
 have HR105_8 := Aside0.mk hi105_8
 have HC105_8 := Aside0.mk hl105_8
 clear hi105_8 hl105_8
 replace p105 := eq_true p105
 replace q105 := eq_true q105
 have ea_ := Option.some.inj (hx101_8.symm.trans hx105_8)
 injection ea_ with ea_ en_ ec_
 (try subst ea_)
 (try subst ec_)
 (try clear ea_ ec_)
 clear en_
 have p107 : 0 ≤ (0 : Int) := (by omega)
 have q107 : 0 < (l0.length : Int) := of_decide_eq_true (by assumption)
 obtain ⟨ad107, A107_8, c107_8, e107, hx107_0, hx107_1, hx107_2, hx107_3, hx107_4, hx107_5, hx107_6, hx107_7, hx107_8, hl107_8, hi107_8⟩ := at_T97 HR0.out 0 p107 q107
 have hw107_8 := hx107_8
 (try simp only [Int.toNat_zero, Nat.zero_mul, Addr.add_zero'] at hw107_8)
 have hw107_7 := hx107_7
 (try simp only [Int.toNat_zero, Nat.zero_mul, Addr.add_zero'] at hw107_7)
 have hw107_6 := hx107_6
 (try simp only [Int.toNat_zero, Nat.zero_mul, Addr.add_zero'] at hw107_6)
 have hw107_5 := hx107_5
 (try simp only [Int.toNat_zero, Nat.zero_mul, Addr.add_zero'] at hw107_5)
 have hw107_4 := hx107_4
 (try simp only [Int.toNat_zero, Nat.zero_mul, Addr.add_zero'] at hw107_4)
 have hw107_3 := hx107_3
 (try simp only [Int.toNat_zero, Nat.zero_mul, Addr.add_zero'] at hw107_3)
 have hw107_2 := hx107_2
 (try simp only [Int.toNat_zero, Nat.zero_mul, Addr.add_zero'] at hw107_2)
 have hw107_1 := hx107_1
 (try simp only [Int.toNat_zero, Nat.zero_mul, Addr.add_zero'] at hw107_1)
 have hw107_0 := hx107_0
 (try simp only [Int.toNat_zero, Nat.zero_mul, Addr.add_zero'] at hw107_0)
 obtain rfl : ad101 = ad107 := (by injection e107)
 have qi107 : (0 < l0.length) = True := eq_true (by omega)
 (try simp only [Int.toNat_zero, Nat.zero_mul, Addr.add_zero'] at hx107_0 hx107_1)
 (try simp only [Int.toNat_zero, Nat.zero_mul, Addr.add_zero'] at hx107_2 hx107_3)
 (try simp only [Int.toNat_zero, Nat.zero_mul, Addr.add_zero'] at hx107_4 hx107_5)
 (try simp only [Int.toNat_zero, Nat.zero_mul, Addr.add_zero'] at hx107_6 hx107_7 hx107_8)
 replace hx107_0 := bu_ HB.out hx107_0
 replace hx107_1 := bu_ HB.out hx107_1
 replace hx107_2 := bu_ HB.out hx107_2
 replace hx107_3 := bu_ HB.out hx107_3
 replace hx107_4 := bu_ HB.out hx107_4
 replace hx107_5 := bu_ HB.out hx107_5
 replace hx107_6 := bu_ HB.out hx107_6
 replace hx107_7 := bu_ HB.out hx107_7
 replace hx107_8 := bu_ HB.out hx107_8
 have HR107_8 := Aside0.mk hi107_8
 have HC107_8 := Aside0.mk hl107_8
 clear hi107_8 hl107_8
 replace p107 := eq_true p107
 replace q107 := eq_true q107
 have ea_ := Option.some.inj (hx101_8.symm.trans hx107_8)
 injection ea_ with ea_ en_ ec_
 (try subst ea_)
 (try subst ec_)
 (try clear ea_ ec_)
 clear en_
 have p109 : 0 ≤ (0 : Int) := (by omega)
 have q109 : 0 < (l0.length : Int) := of_decide_eq_true (by assumption)
 obtain ⟨ad109, A109_8, c109_8, e109, hx109_0, hx109_1, hx109_2, hx109_3, hx109_4, hx109_5, hx109_6, hx109_7, hx109_8, hl109_8, hi109_8⟩ := at_T97 HR0.out 0 p109 q109
 have hw109_8 := hx109_8
 (try simp only [Int.toNat_zero, Nat.zero_mul, Addr.add_zero'] at hw109_8)
 have hw109_7 := hx109_7
 (try simp only [Int.toNat_zero, Nat.zero_mul, Addr.add_zero'] at hw109_7)
 have hw109_6 := hx109_6
 (try simp only [Int.toNat_zero, Nat.zero_mul, Addr.add_zero'] at hw109_6)
 have hw109_5 := hx109_5
 (try simp only [Int.toNat_zero, Nat.zero_mul, Addr.add_zero'] at hw109_5)
 have hw109_4 := hx109_4
 (try simp only [Int.toNat_zero, Nat.zero_mul, Addr.add_zero'] at hw109_4)
 have hw109_3 := hx109_3
 (try simp only [Int.toNat_zero, Nat.zero_mul, Addr.add_zero'] at hw109_3)
 have hw109_2 := hx109_2
 (try simp only [Int.toNat_zero, Nat.zero_mul, Addr.add_zero'] at hw109_2)
 have hw109_1 := hx109_1
 (try simp only [Int.toNat_zero, Nat.zero_mul, Addr.add_zero'] at hw109_1)
 have hw109_0 := hx109_0
 (try simp only [Int.toNat_zero, Nat.zero_mul, Addr.add_zero'] at hw109_0)
 obtain rfl : ad101 = ad109 := (by injection e109)
 have qi109 : (0 < l0.length) = True := eq_true (by omega)
 (try simp only [Int.toNat_zero, Nat.zero_mul, Addr.add_zero'] at hx109_0 hx109_1)
 (try simp only [Int.toNat_zero, Nat.zero_mul, Addr.add_zero'] at hx109_2 hx109_3)
 (try simp only [Int.toNat_zero, Nat.zero_mul, Addr.add_zero'] at hx109_4 hx109_5)
 (try simp only [Int.toNat_zero, Nat.zero_mul, Addr.add_zero'] at hx109_6 hx109_7 hx109_8)
 replace hx109_0 := bu_ HB.out hx109_0
 replace hx109_1 := bu_ HB.out hx109_1
 replace hx109_2 := bu_ HB.out hx109_2
 replace hx109_3 := bu_ HB.out hx109_3
 replace hx109_4 := bu_ HB.out hx109_4
 replace hx109_5 := bu_ HB.out hx109_5
 replace hx109_6 := bu_ HB.out hx109_6
 replace hx109_7 := bu_ HB.out hx109_7
 replace hx109_8 := bu_ HB.out hx109_8
 have HR109_8 := Aside0.mk hi109_8
 have HC109_8 := Aside0.mk hl109_8
 clear hi109_8 hl109_8
 replace p109 := eq_true p109
 replace q109 := eq_true q109
 have ea_ := Option.some.inj (hx101_8.symm.trans hx109_8)
 injection ea_ with ea_ en_ ec_
 (try subst ea_)
 (try subst ec_)
 (try clear ea_ ec_)
 clear en_
 refine cW_ (n := 38) (S := fun w' => w'.cell? ad101 = some (.string ((am_ l0 0).f0)) ∧ w'.cell? ⟨ad101.block, ad101.off + 1, none⟩ = some (.string ((am_ l0 0).f1)) ∧ w'.cell? ⟨ad101.block, ad101.off + 2, none⟩ = some (.int .i64 ((am_ l0 0).f2)) ∧ w'.cell? ⟨ad101.block, ad101.off + 3, none⟩ = some (.string ((am_ l0 0).f3.f0)) ∧ w'.cell? ⟨ad101.block, ad101.off + 4, none⟩ = some (.int .i64 ((am_ l0 0).f3.f1)) ∧ w'.cell? ⟨ad101.block, ad101.off + 5, none⟩ = some (.int .i64 ((am_ l0 0).f3.f2)) ∧ w'.cell? ⟨ad101.block, ad101.off + 6, none⟩ = some (.int .i64 ((am_ l0 0).f4)) ∧ w'.cell? ⟨ad101.block, ad101.off + 7, none⟩ = some (.int .i64 ((am_ l0 0).f5)) ∧ w'.cell? ⟨ad101.block, ad101.off + 8, none⟩ = some (.slice A101_8 ((am_ l0 0).f6).length c101_8) ∧ w'.cell? ad101 = some (.string ((am_ l0 0).f0)) ∧ w'.cell? ⟨ad101.block, ad101.off + 1, none⟩ = some (.string ((am_ l0 0).f1)) ∧ w'.cell? ⟨ad101.block, ad101.off + 2, none⟩ = some (.int .i64 ((am_ l0 0).f2)) ∧ w'.cell? ⟨ad101.block, ad101.off + 3, none⟩ = some (.string ((am_ l0 0).f3.f0)) ∧ w'.cell? ⟨ad101.block, ad101.off + 4, none⟩ = some (.int .i64 ((am_ l0 0).f3.f1)) ∧ w'.cell? ⟨ad101.block, ad101.off + 5, none⟩ = some (.int .i64 ((am_ l0 0).f3.f2)) ∧ w'.cell? ⟨ad101.block, ad101.off + 6, none⟩ = some (.int .i64 ((am_ l0 0).f4)) ∧ w'.cell? ⟨ad101.block, ad101.off + 7, none⟩ = some (.int .i64 ((am_ l0 0).f5)) ∧ w'.cell? ⟨ad101.block, ad101.off + 8, none⟩ = some (.slice A101_8 ((am_ l0 0).f6).length c101_8) ∧ w'.cell? ad101 = some (.string ((am_ l0 0).f0)) ∧ w'.cell? ⟨ad101.block, ad101.off + 1, none⟩ = some (.string ((am_ l0 0).f1)) ∧ w'.cell? ⟨ad101.block, ad101.off + 2, none⟩ = some (.int .i64 ((am_ l0 0).f2)) ∧ w'.cell? ⟨ad101.block, ad101.off + 3, none⟩ = some (.string ((am_ l0 0).f3.f0)) ∧ w'.cell? ⟨ad101.block, ad101.off + 4, none⟩ = some (.int .i64 ((am_ l0 0).f3.f1)) ∧ w'.cell? ⟨ad101.block, ad101.off + 5, none⟩ = some (.int .i64 ((am_ l0 0).f3.f2)) ∧ w'.cell? ⟨ad101.block, ad101.off + 6, none⟩ = some (.int .i64 ((am_ l0 0).f4)) ∧ w'.cell? ⟨ad101.block, ad101.off + 7, none⟩ = some (.int .i64 ((am_ l0 0).f5)) ∧ w'.cell? ⟨ad101.block, ad101.off + 8, none⟩ = some (.slice A101_8 ((am_ l0 0).f6).length c101_8) ∧ w'.cell? ad101 = some (.string ((am_ l0 0).f0)) ∧ w'.cell? ⟨ad101.block, ad101.off + 1, none⟩ = some (.string ((am_ l0 0).f1)) ∧ w'.cell? ⟨ad101.block, ad101.off + 2, none⟩ = some (.int .i64 ((am_ l0 0).f2)) ∧ w'.cell? ⟨ad101.block, ad101.off + 3, none⟩ = some (.string ((am_ l0 0).f3.f0)) ∧ w'.cell? ⟨ad101.block, ad101.off + 4, none⟩ = some (.int .i64 ((am_ l0 0).f3.f1)) ∧ w'.cell? ⟨ad101.block, ad101.off + 5, none⟩ = some (.int .i64 ((am_ l0 0).f3.f2)) ∧ w'.cell? ⟨ad101.block, ad101.off + 6, none⟩ = some (.int .i64 ((am_ l0 0).f4)) ∧ w'.cell? ⟨ad101.block, ad101.off + 7, none⟩ = some (.int .i64 ((am_ l0 0).f5)) ∧ w'.cell? ⟨ad101.block, ad101.off + 8, none⟩ = some (.slice A101_8 ((am_ l0 0).f6).length c101_8) ∧ w'.cell? ad101 = some (.string ((am_ l0 0).f0)) ∧ w'.cell? ⟨ad101.block, ad101.off + 1, none⟩ = some (.string ((am_ l0 0).f1)) ∧ w'.cell? ⟨ad101.block, ad101.off + 2, none⟩ = some (.int .i64 ((am_ l0 0).f2)) ∧ w'.cell? ⟨ad101.block, ad101.off + 3, none⟩ = some (.string ((am_ l0 0).f3.f0)) ∧ w'.cell? ⟨ad101.block, ad101.off + 4, none⟩ = some (.int .i64 ((am_ l0 0).f3.f1)) ∧ w'.cell? ⟨ad101.block, ad101.off + 5, none⟩ = some (.int .i64 ((am_ l0 0).f3.f2)) ∧ w'.cell? ⟨ad101.block, ad101.off + 6, none⟩ = some (.int .i64 ((am_ l0 0).f4)) ∧ w'.cell? ⟨ad101.block, ad101.off + 7, none⟩ = some (.int .i64 ((am_ l0 0).f5)) ∧ w'.cell? ⟨ad101.block, ad101.off + 8, none⟩ = some (.slice A101_8 ((am_ l0 0).f6).length c101_8) ∧ w'.cell? ad101 = some (.string ((am_ l0 0).f0)) ∧ w'.cell? ⟨ad101.block, ad101.off + 1, none⟩ = some (.string ((am_ l0 0).f1)) ∧ w'.cell? ⟨ad101.block, ad101.off + 2, none⟩ = some (.int .i64 ((am_ l0 0).f2)) ∧ w'.cell? ⟨ad101.block, ad101.off + 3, none⟩ = some (.string ((am_ l0 0).f3.f0)) ∧ w'.cell? ⟨ad101.block, ad101.off + 4, none⟩ = some (.int .i64 ((am_ l0 0).f3.f1)) ∧ w'.cell? ⟨ad101.block, ad101.off + 5, none⟩ = some (.int .i64 ((am_ l0 0).f3.f2)) ∧ w'.cell? ⟨ad101.block, ad101.off + 6, none⟩ = some (.int .i64 ((am_ l0 0).f4)) ∧ w'.cell? ⟨ad101.block, ad101.off + 7, none⟩ = some (.int .i64 ((am_ l0 0).f5)) ∧ w'.cell? ⟨ad101.block, ad101.off + 8, none⟩ = some (.slice A101_8 ((am_ l0 0).f6).length c101_8)) (ds := []) #[f_,f_,f_,f_,f_,f_,f_,f_,f_,f_,f_,f_,f_,f_,f_,f_,f_,f_,f_,f_,f_,f_,f_,f_,f_,f_,f_,f_,f_,f_,f_,f_,f_,f_,f_,f_,f_,f_] (by kernel_rfl) rfl rfl ⟨(bv_ HB.out hw101_0), (bv_ HB.out hw101_1), (bv_ HB.out hw101_2), (bv_ HB.out hw101_3), (bv_ HB.out hw101_4), (bv_ HB.out hw101_5), (bv_ HB.out hw101_6), (bv_ HB.out hw101_7), (bv_ HB.out hw101_8), (bv_ HB.out hw102_0), (bv_ HB.out hw102_1), (bv_ HB.out hw102_2), (bv_ HB.out hw102_3), (bv_ HB.out hw102_4), (bv_ HB.out hw102_5), (bv_ HB.out hw102_6), (bv_ HB.out hw102_7), (bv_ HB.out hw102_8), (bv_ HB.out hw103_0), (bv_ HB.out hw103_1), (bv_ HB.out hw103_2), (bv_ HB.out hw103_3), (bv_ HB.out hw103_4), (bv_ HB.out hw103_5), (bv_ HB.out hw103_6), (bv_ HB.out hw103_7), (bv_ HB.out hw103_8), (bv_ HB.out hw105_0), (bv_ HB.out hw105_1), (bv_ HB.out hw105_2), (bv_ HB.out hw105_3), (bv_ HB.out hw105_4), (bv_ HB.out hw105_5), (bv_ HB.out hw105_6), (bv_ HB.out hw105_7), (bv_ HB.out hw105_8), (bv_ HB.out hw107_0), (bv_ HB.out hw107_1), (bv_ HB.out hw107_2), (bv_ HB.out hw107_3), (bv_ HB.out hw107_4), (bv_ HB.out hw107_5), (bv_ HB.out hw107_6), (bv_ HB.out hw107_7), (bv_ HB.out hw107_8), (bv_ HB.out hw109_0), (bv_ HB.out hw109_1), (bv_ HB.out hw109_2), (bv_ HB.out hw109_3), (bv_ HB.out hw109_4), (bv_ HB.out hw109_5), (bv_ HB.out hw109_6), (bv_ HB.out hw109_7), (bv_ HB.out hw109_8)⟩ (fun hHeld => ?_); refine ce_ bg_.tab1 bg_.bits1 (fun HT_ HW_ => ?_)
 generalize w.drew = w17 at HB HR101_8 HR102_8 HR103_8 HR105_8 HR107_8 HR109_8 hx101_0 hx101_1 hx101_2 hx101_3 hx101_4 hx101_5 hx101_6 hx101_7 hx101_8 hx102_0 hx102_1 hx102_2 hx102_3 hx102_4 hx102_5 hx102_6 hx102_7 hx102_8 hx103_0 hx103_1 hx103_2 hx103_3 hx103_4 hx103_5 hx103_6 hx103_7 hx103_8 hx105_0 hx105_1 hx105_2 hx105_3 hx105_4 hx105_5 hx105_6 hx105_7 hx105_8 hx107_0 hx107_1 hx107_2 hx107_3 hx107_4 hx107_5 hx107_6 hx107_7 hx107_8 hx109_0 hx109_1 hx109_2 hx109_3 hx109_4 hx109_5 hx109_6 hx109_7 hx109_8 hHeld ⊢
 refine pu 0 6 #[t_,f_,f_,f_,f_,f_,f_,f_,f_,f_,f_,f_,f_,f_,f_,f_,f_,f_,f_,f_,f_,f_,f_,f_,f_,f_,f_,f_,f_,f_,f_,f_,f_,f_,f_,f_,f_,f_] HT_ ?_
 refine pu 1 7 #[t_,t_,f_,f_,f_,f_,f_,f_,f_,f_,f_,f_,f_,f_,f_,f_,f_,f_,f_,f_,f_,f_,f_,f_,f_,f_,f_,f_,f_,f_,f_,f_,f_,f_,f_,f_,f_,f_] HT_ ?_
 refine pu 2 8 #[t_,t_,t_,f_,f_,f_,f_,f_,f_,f_,f_,f_,f_,f_,f_,f_,f_,f_,f_,f_,f_,f_,f_,f_,f_,f_,f_,f_,f_,f_,f_,f_,f_,f_,f_,f_,f_,f_] HT_ ?_
 refine pu 5 11 #[t_,t_,t_,f_,f_,t_,f_,f_,f_,f_,f_,f_,f_,f_,f_,f_,f_,f_,f_,f_,f_,f_,f_,f_,f_,f_,f_,f_,f_,f_,f_,f_,f_,f_,f_,f_,f_,f_] HT_ ?_
 refine pu 6 12 #[t_,t_,t_,f_,f_,t_,t_,f_,f_,f_,f_,f_,f_,f_,f_,f_,f_,f_,f_,f_,f_,f_,f_,f_,f_,f_,f_,f_,f_,f_,f_,f_,f_,f_,f_,f_,f_,f_] HT_ ?_
 refine pu 7 13 #[t_,t_,t_,f_,f_,t_,t_,t_,f_,f_,f_,f_,f_,f_,f_,f_,f_,f_,f_,f_,f_,f_,f_,f_,f_,f_,f_,f_,f_,f_,f_,f_,f_,f_,f_,f_,f_,f_] HT_ ?_
 refine pu 11 17 #[t_,t_,t_,f_,f_,t_,t_,t_,f_,f_,f_,t_,f_,f_,f_,f_,f_,f_,f_,f_,f_,f_,f_,f_,f_,f_,f_,f_,f_,f_,f_,f_,f_,f_,f_,f_,f_,f_] HT_ ?_
 refine pu 12 18 #[t_,t_,t_,f_,f_,t_,t_,t_,f_,f_,f_,t_,t_,f_,f_,f_,f_,f_,f_,f_,f_,f_,f_,f_,f_,f_,f_,f_,f_,f_,f_,f_,f_,f_,f_,f_,f_,f_] HT_ ?_
 refine pu 13 19 #[t_,t_,t_,f_,f_,t_,t_,t_,f_,f_,f_,t_,t_,t_,f_,f_,f_,f_,f_,f_,f_,f_,f_,f_,f_,f_,f_,f_,f_,f_,f_,f_,f_,f_,f_,f_,f_,f_] HT_ ?_
 refine pu 18 24 #[t_,t_,t_,f_,f_,t_,t_,t_,f_,f_,f_,t_,t_,t_,f_,f_,f_,f_,t_,f_,f_,f_,f_,f_,f_,f_,f_,f_,f_,f_,f_,f_,f_,f_,f_,f_,f_,f_] HT_ ?_
 refine pu 19 25 #[t_,t_,t_,f_,f_,t_,t_,t_,f_,f_,f_,t_,t_,t_,f_,f_,f_,f_,t_,t_,f_,f_,f_,f_,f_,f_,f_,f_,f_,f_,f_,f_,f_,f_,f_,f_,f_,f_] HT_ ?_
 refine pu 20 26 #[t_,t_,t_,f_,f_,t_,t_,t_,f_,f_,f_,t_,t_,t_,f_,f_,f_,f_,t_,t_,t_,f_,f_,f_,f_,f_,f_,f_,f_,f_,f_,f_,f_,f_,f_,f_,f_,f_] HT_ ?_
 refine pu 24 30 #[t_,t_,t_,f_,f_,t_,t_,t_,f_,f_,f_,t_,t_,t_,f_,f_,f_,f_,t_,t_,t_,f_,f_,f_,t_,f_,f_,f_,f_,f_,f_,f_,f_,f_,f_,f_,f_,f_] HT_ ?_
 refine pu 25 31 #[t_,t_,t_,f_,f_,t_,t_,t_,f_,f_,f_,t_,t_,t_,f_,f_,f_,f_,t_,t_,t_,f_,f_,f_,t_,t_,f_,f_,f_,f_,f_,f_,f_,f_,f_,f_,f_,f_] HT_ ?_
 refine pu 26 32 #[t_,t_,t_,f_,f_,t_,t_,t_,f_,f_,f_,t_,t_,t_,f_,f_,f_,f_,t_,t_,t_,f_,f_,f_,t_,t_,t_,f_,f_,f_,f_,f_,f_,f_,f_,f_,f_,f_] HT_ ?_
 refine pu 31 37 #[t_,t_,t_,f_,f_,t_,t_,t_,f_,f_,f_,t_,t_,t_,f_,f_,f_,f_,t_,t_,t_,f_,f_,f_,t_,t_,t_,f_,f_,f_,f_,t_,f_,f_,f_,f_,f_,f_] HT_ ?_
 refine pu 32 38 #[t_,t_,t_,f_,f_,t_,t_,t_,f_,f_,f_,t_,t_,t_,f_,f_,f_,f_,t_,t_,t_,f_,f_,f_,t_,t_,t_,f_,f_,f_,f_,t_,t_,f_,f_,f_,f_,f_] HT_ ?_
 refine pu 33 39 #[t_,t_,t_,f_,f_,t_,t_,t_,f_,f_,f_,t_,t_,t_,f_,f_,f_,f_,t_,t_,t_,f_,f_,f_,t_,t_,t_,f_,f_,f_,f_,t_,t_,t_,f_,f_,f_,f_] HT_ ?_
 refine tk 3 9 #[t_,t_,t_,t_,f_,t_,t_,t_,f_,f_,f_,t_,t_,t_,f_,f_,f_,f_,t_,t_,t_,f_,f_,f_,t_,t_,t_,f_,f_,f_,f_,t_,t_,t_,f_,f_,f_,f_] HT_ HW_ hHeld ?_ (hv := by rintro w' ⟨s0, s1, s2, s3, s4, s5, s6, s7, s8, s9, s10, s11, s12, s13, s14, s15, s16, s17, s18, s19, s20, s21, s22, s23, s24, s25, s26, s27, s28, s29, s30, s31, s32, s33, s34, s35, s36, s37, s38, s39, s40, s41, s42, s43, s44, s45, s46, s47, s48, s49, s50, s51, s52, s53⟩; go_simp; with_reducible rfl)
 refine pu 4 10 #[t_,t_,t_,t_,t_,t_,t_,t_,f_,f_,f_,t_,t_,t_,f_,f_,f_,f_,t_,t_,t_,f_,f_,f_,t_,t_,t_,f_,f_,f_,f_,t_,t_,t_,f_,f_,f_,f_] HT_ ?_
 refine tk 8 14 #[t_,t_,t_,t_,t_,t_,t_,t_,t_,f_,f_,t_,t_,t_,f_,f_,f_,f_,t_,t_,t_,f_,f_,f_,t_,t_,t_,f_,f_,f_,f_,t_,t_,t_,f_,f_,f_,f_] HT_ HW_ hHeld ?_ (hv := by rintro w' ⟨s0, s1, s2, s3, s4, s5, s6, s7, s8, s9, s10, s11, s12, s13, s14, s15, s16, s17, s18, s19, s20, s21, s22, s23, s24, s25, s26, s27, s28, s29, s30, s31, s32, s33, s34, s35, s36, s37, s38, s39, s40, s41, s42, s43, s44, s45, s46, s47, s48, s49, s50, s51, s52, s53⟩; go_simp; with_reducible rfl)
 refine pu 9 15 #[t_,t_,t_,t_,t_,t_,t_,t_,t_,t_,f_,t_,t_,t_,f_,f_,f_,f_,t_,t_,t_,f_,f_,f_,t_,t_,t_,f_,f_,f_,f_,t_,t_,t_,f_,f_,f_,f_] HT_ ?_
 refine pu 10 16 #[t_,t_,t_,t_,t_,t_,t_,t_,t_,t_,t_,t_,t_,t_,f_,f_,f_,f_,t_,t_,t_,f_,f_,f_,t_,t_,t_,f_,f_,f_,f_,t_,t_,t_,f_,f_,f_,f_] HT_ ?_
 refine tk 14 20 #[t_,t_,t_,t_,t_,t_,t_,t_,t_,t_,t_,t_,t_,t_,t_,f_,f_,f_,t_,t_,t_,f_,f_,f_,t_,t_,t_,f_,f_,f_,f_,t_,t_,t_,f_,f_,f_,f_] HT_ HW_ hHeld ?_ (hv := by rintro w' ⟨s0, s1, s2, s3, s4, s5, s6, s7, s8, s9, s10, s11, s12, s13, s14, s15, s16, s17, s18, s19, s20, s21, s22, s23, s24, s25, s26, s27, s28, s29, s30, s31, s32, s33, s34, s35, s36, s37, s38, s39, s40, s41, s42, s43, s44, s45, s46, s47, s48, s49, s50, s51, s52, s53⟩; go_simp; with_reducible rfl)
 refine tk 27 33 #[t_,t_,t_,t_,t_,t_,t_,t_,t_,t_,t_,t_,t_,t_,t_,f_,f_,f_,t_,t_,t_,f_,f_,f_,t_,t_,t_,t_,f_,f_,f_,t_,t_,t_,f_,f_,f_,f_] HT_ HW_ hHeld ?_ (hv := by rintro w' ⟨s0, s1, s2, s3, s4, s5, s6, s7, s8, s9, s10, s11, s12, s13, s14, s15, s16, s17, s18, s19, s20, s21, s22, s23, s24, s25, s26, s27, s28, s29, s30, s31, s32, s33, s34, s35, s36, s37, s38, s39, s40, s41, s42, s43, s44, s45, s46, s47, s48, s49, s50, s51, s52, s53⟩; go_simp; with_reducible rfl)
 refine tk 34 40 #[t_,t_,t_,t_,t_,t_,t_,t_,t_,t_,t_,t_,t_,t_,t_,f_,f_,f_,t_,t_,t_,f_,f_,f_,t_,t_,t_,t_,f_,f_,f_,t_,t_,t_,t_,f_,f_,f_] HT_ HW_ hHeld ?_ (hv := by rintro w' ⟨s0, s1, s2, s3, s4, s5, s6, s7, s8, s9, s10, s11, s12, s13, s14, s15, s16, s17, s18, s19, s20, s21, s22, s23, s24, s25, s26, s27, s28, s29, s30, s31, s32, s33, s34, s35, s36, s37, s38, s39, s40, s41, s42, s43, s44, s45, s46, s47, s48, s49, s50, s51, s52, s53⟩; go_simp; with_reducible rfl)
 refine one_ (i := 15) (N := some 21) #[t_,t_,t_,t_,t_,t_,t_,t_,t_,t_,t_,t_,t_,t_,t_,t_,f_,f_,t_,t_,t_,f_,f_,f_,t_,t_,t_,t_,f_,f_,f_,t_,t_,t_,t_,f_,f_,f_] rfl rfl (bZ_ HT_.out (by kernel_rfl)) (by decide) (fun K hK => ?_)
 (first | refine goes_ Tryd.func68 (by kernel_rfl) rfl #[.int .i64 ((am_ l0 0).f2)] (by rfl) rfl rfl (by first | rfl | (simp only [lma_, lmc_, lmn_]; first | done | rfl)) ?_ | refine RPW.cj_ Tryd.func68 (by kernel_rfl) rfl #[.int .i64 ((am_ l0 0).f2)] (by rfl) rfl rfl rfl (by first | rfl | (simp only [lma_, lmc_, lmn_]; first | done | rfl)) ?_ | refine RPW.ci_ Tryd.func68 (by kernel_rfl) rfl #[.int .i64 ((am_ l0 0).f2)] (by rfl) rfl rfl rfl (by first | rfl | (simp only [lma_, lmc_, lmn_]; first | done | rfl)) ?_)
 with_reducible refine (au_.calls k ((am_ l0 0).f2) t104 _ A6.out).mono ?_
 rintro e w18 ⟨rfl, hb⟩
 refine ⟨_, rfl, ?_⟩
 have n0_ := Aside0.mk (ah_ (bz HB.out) hb)
 clear HB
 have HB := n0_
 clear n0_
 (try clear hb)
 refine hK.out _ _ ⟨(bv_ HB.out hw101_0), (bv_ HB.out hw101_1), (bv_ HB.out hw101_2), (bv_ HB.out hw101_3), (bv_ HB.out hw101_4), (bv_ HB.out hw101_5), (bv_ HB.out hw101_6), (bv_ HB.out hw101_7), (bv_ HB.out hw101_8), (bv_ HB.out hw102_0), (bv_ HB.out hw102_1), (bv_ HB.out hw102_2), (bv_ HB.out hw102_3), (bv_ HB.out hw102_4), (bv_ HB.out hw102_5), (bv_ HB.out hw102_6), (bv_ HB.out hw102_7), (bv_ HB.out hw102_8), (bv_ HB.out hw103_0), (bv_ HB.out hw103_1), (bv_ HB.out hw103_2), (bv_ HB.out hw103_3), (bv_ HB.out hw103_4), (bv_ HB.out hw103_5), (bv_ HB.out hw103_6), (bv_ HB.out hw103_7), (bv_ HB.out hw103_8), (bv_ HB.out hw105_0), (bv_ HB.out hw105_1), (bv_ HB.out hw105_2), (bv_ HB.out hw105_3), (bv_ HB.out hw105_4), (bv_ HB.out hw105_5), (bv_ HB.out hw105_6), (bv_ HB.out hw105_7), (bv_ HB.out hw105_8), (bv_ HB.out hw107_0), (bv_ HB.out hw107_1), (bv_ HB.out hw107_2), (bv_ HB.out hw107_3), (bv_ HB.out hw107_4), (bv_ HB.out hw107_5), (bv_ HB.out hw107_6), (bv_ HB.out hw107_7), (bv_ HB.out hw107_8), (bv_ HB.out hw109_0), (bv_ HB.out hw109_1), (bv_ HB.out hw109_2), (bv_ HB.out hw109_3), (bv_ HB.out hw109_4), (bv_ HB.out hw109_5), (bv_ HB.out hw109_6), (bv_ HB.out hw109_7), (bv_ HB.out hw109_8)⟩ (fun hHeld => ?_)
 clear hK K
 refine norm_ (a' := ?_) ?_ ?_
 rotate_left
 ·show Act.put _ (some 21) _ = _
  simp only [Act.put, lsa_, ls0_, ls1_, i64_w, i32_w]
  rfl
 refine pu 16 22 #[t_,t_,t_,t_,t_,t_,t_,t_,t_,t_,t_,t_,t_,t_,t_,t_,t_,f_,t_,t_,t_,f_,f_,f_,t_,t_,t_,t_,f_,f_,f_,t_,t_,t_,t_,f_,f_,f_] HT_ ?_
 refine pu 17 23 #[t_,t_,t_,t_,t_,t_,t_,t_,t_,t_,t_,t_,t_,t_,t_,t_,t_,t_,t_,t_,t_,f_,f_,f_,t_,t_,t_,t_,f_,f_,f_,t_,t_,t_,t_,f_,f_,f_] HT_ ?_
 refine one_ (i := 21) (N := some 27) #[t_,t_,t_,t_,t_,t_,t_,t_,t_,t_,t_,t_,t_,t_,t_,t_,t_,t_,t_,t_,t_,t_,f_,f_,t_,t_,t_,t_,f_,f_,f_,t_,t_,t_,t_,f_,f_,f_] rfl rfl (bZ_ HT_.out (by kernel_rfl)) (by decide) (fun K hK => ?_)
 (first | refine goes_ Tryd.func99 (by kernel_rfl) rfl #[.pointer (some ((ad101.add ((0 : Int).toNat * 9)).add 3))] (by rfl) rfl rfl (by first | rfl | (simp only [lma_, lmc_, lmn_]; first | done | rfl)) ?_ | refine RPW.cj_ Tryd.func99 (by kernel_rfl) rfl #[.pointer (some ((ad101.add ((0 : Int).toNat * 9)).add 3))] (by rfl) rfl rfl rfl (by first | rfl | (simp only [lma_, lmc_, lmn_]; first | done | rfl)) ?_ | refine RPW.ci_ Tryd.func99 (by kernel_rfl) rfl #[.pointer (some ((ad101.add ((0 : Int).toNat * 9)).add 3))] (by rfl) rfl rfl rfl (by first | rfl | (simp only [lma_, lmc_, lmn_]; first | done | rfl)) ?_)
 with_reducible refine (bJ_.calls k _ [(am_ l0 0).f3] t106 _ ?side1 A9.out).mono ?_
 (case side1 => exact (RPW.C_fst (RPW.C_snd (RPW.C_snd (RPW.C_snd (RPW.C_iso (RPW.cT_ (ad := ad101) (n := l0.length) (xs := l0) z97 (i := 0) (by first | exact of_eq_true p105 | exact p105 | omega) (by first | exact of_eq_true q105 | exact q105 | omega) (by first | exact (Kd.bW_ HR0.out HB.out) | exact cz (Kd.bW_ HR0.out HB.out)))))))))
 rintro e w19 ⟨rfl, hb⟩
 refine ⟨_, rfl, ?_⟩
 have n0_ := Aside0.mk (ah_ (bz HB.out) hb)
 clear HB
 have HB := n0_
 clear n0_
 (try clear hb)
 refine hK.out _ _ ⟨(bv_ HB.out hw101_0), (bv_ HB.out hw101_1), (bv_ HB.out hw101_2), (bv_ HB.out hw101_3), (bv_ HB.out hw101_4), (bv_ HB.out hw101_5), (bv_ HB.out hw101_6), (bv_ HB.out hw101_7), (bv_ HB.out hw101_8), (bv_ HB.out hw102_0), (bv_ HB.out hw102_1), (bv_ HB.out hw102_2), (bv_ HB.out hw102_3), (bv_ HB.out hw102_4), (bv_ HB.out hw102_5), (bv_ HB.out hw102_6), (bv_ HB.out hw102_7), (bv_ HB.out hw102_8), (bv_ HB.out hw103_0), (bv_ HB.out hw103_1), (bv_ HB.out hw103_2), (bv_ HB.out hw103_3), (bv_ HB.out hw103_4), (bv_ HB.out hw103_5), (bv_ HB.out hw103_6), (bv_ HB.out hw103_7), (bv_ HB.out hw103_8), (bv_ HB.out hw105_0), (bv_ HB.out hw105_1), (bv_ HB.out hw105_2), (bv_ HB.out hw105_3), (bv_ HB.out hw105_4), (bv_ HB.out hw105_5), (bv_ HB.out hw105_6), (bv_ HB.out hw105_7), (bv_ HB.out hw105_8), (bv_ HB.out hw107_0), (bv_ HB.out hw107_1), (bv_ HB.out hw107_2), (bv_ HB.out hw107_3), (bv_ HB.out hw107_4), (bv_ HB.out hw107_5), (bv_ HB.out hw107_6), (bv_ HB.out hw107_7), (bv_ HB.out hw107_8), (bv_ HB.out hw109_0), (bv_ HB.out hw109_1), (bv_ HB.out hw109_2), (bv_ HB.out hw109_3), (bv_ HB.out hw109_4), (bv_ HB.out hw109_5), (bv_ HB.out hw109_6), (bv_ HB.out hw109_7), (bv_ HB.out hw109_8)⟩ (fun hHeld => ?_)
 clear hK K
 refine norm_ (a' := ?_) ?_ ?_
 rotate_left
 ·show Act.put _ (some 27) _ = _
  simp only [Act.put, lsa_, ls0_, ls1_, i64_w, i32_w]
  rfl
 refine pu 22 28 #[t_,t_,t_,t_,t_,t_,t_,t_,t_,t_,t_,t_,t_,t_,t_,t_,t_,t_,t_,t_,t_,t_,t_,f_,t_,t_,t_,t_,f_,f_,f_,t_,t_,t_,t_,f_,f_,f_] HT_ ?_
 refine pu 23 29 #[t_,t_,t_,t_,t_,t_,t_,t_,t_,t_,t_,t_,t_,t_,t_,t_,t_,t_,t_,t_,t_,t_,t_,t_,t_,t_,t_,t_,f_,f_,f_,t_,t_,t_,t_,f_,f_,f_] HT_ ?_
 refine one_ (i := 28) (N := some 34) #[t_,t_,t_,t_,t_,t_,t_,t_,t_,t_,t_,t_,t_,t_,t_,t_,t_,t_,t_,t_,t_,t_,t_,t_,t_,t_,t_,t_,t_,f_,f_,t_,t_,t_,t_,f_,f_,f_] rfl rfl (bZ_ HT_.out (by kernel_rfl)) (by decide) (fun K hK => ?_)
 (first | refine goes_ Tryd.func68 (by kernel_rfl) rfl #[.int .i64 ((am_ l0 0).f4)] (by rfl) rfl rfl (by first | rfl | (simp only [lma_, lmc_, lmn_]; first | done | rfl)) ?_ | refine RPW.cj_ Tryd.func68 (by kernel_rfl) rfl #[.int .i64 ((am_ l0 0).f4)] (by rfl) rfl rfl rfl (by first | rfl | (simp only [lma_, lmc_, lmn_]; first | done | rfl)) ?_ | refine RPW.ci_ Tryd.func68 (by kernel_rfl) rfl #[.int .i64 ((am_ l0 0).f4)] (by rfl) rfl rfl rfl (by first | rfl | (simp only [lma_, lmc_, lmn_]; first | done | rfl)) ?_)
 with_reducible refine (au_.calls k ((am_ l0 0).f4) t108 _ A12.out).mono ?_
 rintro e w20 ⟨rfl, hb⟩
 refine ⟨_, rfl, ?_⟩
 have n0_ := Aside0.mk (ah_ (bz HB.out) hb)
 clear HB
 have HB := n0_
 clear n0_
 (try clear hb)
 refine hK.out _ _ ⟨(bv_ HB.out hw101_0), (bv_ HB.out hw101_1), (bv_ HB.out hw101_2), (bv_ HB.out hw101_3), (bv_ HB.out hw101_4), (bv_ HB.out hw101_5), (bv_ HB.out hw101_6), (bv_ HB.out hw101_7), (bv_ HB.out hw101_8), (bv_ HB.out hw102_0), (bv_ HB.out hw102_1), (bv_ HB.out hw102_2), (bv_ HB.out hw102_3), (bv_ HB.out hw102_4), (bv_ HB.out hw102_5), (bv_ HB.out hw102_6), (bv_ HB.out hw102_7), (bv_ HB.out hw102_8), (bv_ HB.out hw103_0), (bv_ HB.out hw103_1), (bv_ HB.out hw103_2), (bv_ HB.out hw103_3), (bv_ HB.out hw103_4), (bv_ HB.out hw103_5), (bv_ HB.out hw103_6), (bv_ HB.out hw103_7), (bv_ HB.out hw103_8), (bv_ HB.out hw105_0), (bv_ HB.out hw105_1), (bv_ HB.out hw105_2), (bv_ HB.out hw105_3), (bv_ HB.out hw105_4), (bv_ HB.out hw105_5), (bv_ HB.out hw105_6), (bv_ HB.out hw105_7), (bv_ HB.out hw105_8), (bv_ HB.out hw107_0), (bv_ HB.out hw107_1), (bv_ HB.out hw107_2), (bv_ HB.out hw107_3), (bv_ HB.out hw107_4), (bv_ HB.out hw107_5), (bv_ HB.out hw107_6), (bv_ HB.out hw107_7), (bv_ HB.out hw107_8), (bv_ HB.out hw109_0), (bv_ HB.out hw109_1), (bv_ HB.out hw109_2), (bv_ HB.out hw109_3), (bv_ HB.out hw109_4), (bv_ HB.out hw109_5), (bv_ HB.out hw109_6), (bv_ HB.out hw109_7), (bv_ HB.out hw109_8)⟩ (fun hHeld => ?_)
 clear hK K
 refine norm_ (a' := ?_) ?_ ?_
 rotate_left
 ·show Act.put _ (some 34) _ = _
  simp only [Act.put, lsa_, ls0_, ls1_, i64_w, i32_w]
  rfl
 refine pu 29 35 #[t_,t_,t_,t_,t_,t_,t_,t_,t_,t_,t_,t_,t_,t_,t_,t_,t_,t_,t_,t_,t_,t_,t_,t_,t_,t_,t_,t_,t_,t_,f_,t_,t_,t_,t_,f_,f_,f_] HT_ ?_
 refine pu 30 36 #[t_,t_,t_,t_,t_,t_,t_,t_,t_,t_,t_,t_,t_,t_,t_,t_,t_,t_,t_,t_,t_,t_,t_,t_,t_,t_,t_,t_,t_,t_,t_,t_,t_,t_,t_,f_,f_,f_] HT_ ?_
 refine one_ (i := 35) (N := some 41) #[t_,t_,t_,t_,t_,t_,t_,t_,t_,t_,t_,t_,t_,t_,t_,t_,t_,t_,t_,t_,t_,t_,t_,t_,t_,t_,t_,t_,t_,t_,t_,t_,t_,t_,t_,t_,f_,f_] rfl rfl (bZ_ HT_.out (by kernel_rfl)) (by decide) (fun K hK => ?_)
 (first | refine goes_ Tryd.func68 (by kernel_rfl) rfl #[.int .i64 ((am_ l0 0).f5)] (by rfl) rfl rfl (by first | rfl | (simp only [lma_, lmc_, lmn_]; first | done | rfl)) ?_ | refine RPW.cj_ Tryd.func68 (by kernel_rfl) rfl #[.int .i64 ((am_ l0 0).f5)] (by rfl) rfl rfl rfl (by first | rfl | (simp only [lma_, lmc_, lmn_]; first | done | rfl)) ?_ | refine RPW.ci_ Tryd.func68 (by kernel_rfl) rfl #[.int .i64 ((am_ l0 0).f5)] (by rfl) rfl rfl rfl (by first | rfl | (simp only [lma_, lmc_, lmn_]; first | done | rfl)) ?_)
 with_reducible refine (au_.calls k ((am_ l0 0).f5) t110 _ A15.out).mono ?_
 rintro e w21 ⟨rfl, hb⟩
 refine ⟨_, rfl, ?_⟩
 have n0_ := Aside0.mk (ah_ (bz HB.out) hb)
 clear HB
 have HB := n0_
 clear n0_
 (try clear hb)
 refine hK.out _ _ ⟨(bv_ HB.out hw101_0), (bv_ HB.out hw101_1), (bv_ HB.out hw101_2), (bv_ HB.out hw101_3), (bv_ HB.out hw101_4), (bv_ HB.out hw101_5), (bv_ HB.out hw101_6), (bv_ HB.out hw101_7), (bv_ HB.out hw101_8), (bv_ HB.out hw102_0), (bv_ HB.out hw102_1), (bv_ HB.out hw102_2), (bv_ HB.out hw102_3), (bv_ HB.out hw102_4), (bv_ HB.out hw102_5), (bv_ HB.out hw102_6), (bv_ HB.out hw102_7), (bv_ HB.out hw102_8), (bv_ HB.out hw103_0), (bv_ HB.out hw103_1), (bv_ HB.out hw103_2), (bv_ HB.out hw103_3), (bv_ HB.out hw103_4), (bv_ HB.out hw103_5), (bv_ HB.out hw103_6), (bv_ HB.out hw103_7), (bv_ HB.out hw103_8), (bv_ HB.out hw105_0), (bv_ HB.out hw105_1), (bv_ HB.out hw105_2), (bv_ HB.out hw105_3), (bv_ HB.out hw105_4), (bv_ HB.out hw105_5), (bv_ HB.out hw105_6), (bv_ HB.out hw105_7), (bv_ HB.out hw105_8), (bv_ HB.out hw107_0), (bv_ HB.out hw107_1), (bv_ HB.out hw107_2), (bv_ HB.out hw107_3), (bv_ HB.out hw107_4), (bv_ HB.out hw107_5), (bv_ HB.out hw107_6), (bv_ HB.out hw107_7), (bv_ HB.out hw107_8), (bv_ HB.out hw109_0), (bv_ HB.out hw109_1), (bv_ HB.out hw109_2), (bv_ HB.out hw109_3), (bv_ HB.out hw109_4), (bv_ HB.out hw109_5), (bv_ HB.out hw109_6), (bv_ HB.out hw109_7), (bv_ HB.out hw109_8)⟩ (fun hHeld => ?_)
 clear hK K
 refine norm_ (a' := ?_) ?_ ?_
 rotate_left
 ·show Act.put _ (some 41) _ = _
  simp only [Act.put, lsa_, ls0_, ls1_, i64_w, i32_w]
  rfl
 refine pu 36 42 #[t_,t_,t_,t_,t_,t_,t_,t_,t_,t_,t_,t_,t_,t_,t_,t_,t_,t_,t_,t_,t_,t_,t_,t_,t_,t_,t_,t_,t_,t_,t_,t_,t_,t_,t_,t_,t_,f_] HT_ ?_
 refine pu 37 3 #[t_,t_,t_,t_,t_,t_,t_,t_,t_,t_,t_,t_,t_,t_,t_,t_,t_,t_,t_,t_,t_,t_,t_,t_,t_,t_,t_,t_,t_,t_,t_,t_,t_,t_,t_,t_,t_,t_] HT_ ?_
 refine done_ (cO_ HT_.out (by kernel_rfl)) ?_
 try go_wp2
 (try simp only [Act.put, lsa_, ls0_, ls1_])
 go_loopg [3, 4] k (fun kq v3 v4 w' => ∃ (x3_1 : ByteArray) (x4_1 : Int), v3 = .string x3_1 ∧ v4 = .int .i64 x4_1 ∧ Aside0 (bg_.l0 kq l0 x3_1 x4_1 = some r) ∧ Aside0 (kq ≤ k) ∧ Aside0 (Below w.heap.size w w'))
 case atStart => exact ⟨((((((((((((am_ l0 0).f0) ++ (⟨#[47]⟩ : ByteArray)) ++ ((am_ l0 0).f1)) ++ (⟨#[47]⟩ : ByteArray)) ++ t104) ++ (⟨#[47]⟩ : ByteArray)) ++ t106) ++ (⟨#[47]⟩ : ByteArray)) ++ t108) ++ (⟨#[120]⟩ : ByteArray)) ++ t110), (0), (by first | rfl | (simp; done) | (simp [*]; done)), (by first | rfl | (simp; done) | (simp [*]; done)), H', ⟨Nat.le_refl _⟩, ⟨bz HB.out⟩⟩
 case round =>
  clear H'
  obtain ⟨x3_1, x4_1, rfl, rfl, HA, HK1, HB⟩ := hrel
  cases gk with
  | zero => exact absurd HA.out (by simp [bg_.l0])
  | succ k1 =>
   have H := HA.out
   clear HA
   simp only [bg_.l0] at H
   by_cases c22 : 0 < (l0.length : Int)
   rotate_left
   ·rw [if_neg c22] at H
    exact absurd H (by simp)
   rw [if_pos c22] at H
   have c22b0 : decide (0 < (l0.length : Int)) = true := decide_eq_true c22
   have c22b1 : decide (0 < l0.length) = true := decide_eq_true (by omega)
   clear c22
   by_cases c23 : x4_1 < (((am_ l0 0).f6).length : Int)
   rotate_left
   ·rw [if_neg c23] at H
    have c23b0 : decide (x4_1 < (((am_ l0 0).f6).length : Int)) = false := decide_eq_false c23
    clear c23
    obtain rfl := Option.some.inj H
    have p111 : 0 ≤ (0 : Int) := (by omega)
    have q111 : 0 < (l0.length : Int) := of_decide_eq_true (by assumption)
    obtain ⟨ad111, A111_8, c111_8, e111, hx111_0, hx111_1, hx111_2, hx111_3, hx111_4, hx111_5, hx111_6, hx111_7, hx111_8, hl111_8, hi111_8⟩ := at_T97 HR0.out 0 p111 q111
    obtain rfl : ad101 = ad111 := (by injection e111)
    have qi111 : (0 < l0.length) = True := eq_true (by omega)
    (try simp only [Int.toNat_zero, Nat.zero_mul, Addr.add_zero'] at hx111_0 hx111_1)
    (try simp only [Int.toNat_zero, Nat.zero_mul, Addr.add_zero'] at hx111_2 hx111_3)
    (try simp only [Int.toNat_zero, Nat.zero_mul, Addr.add_zero'] at hx111_4 hx111_5)
    (try simp only [Int.toNat_zero, Nat.zero_mul, Addr.add_zero'] at hx111_6 hx111_7 hx111_8)
    replace hx111_0 := bu_ HB.out hx111_0
    replace hx111_1 := bu_ HB.out hx111_1
    replace hx111_2 := bu_ HB.out hx111_2
    replace hx111_3 := bu_ HB.out hx111_3
    replace hx111_4 := bu_ HB.out hx111_4
    replace hx111_5 := bu_ HB.out hx111_5
    replace hx111_6 := bu_ HB.out hx111_6
    replace hx111_7 := bu_ HB.out hx111_7
    replace hx111_8 := bu_ HB.out hx111_8
    have HR111_8 := Aside0.mk hi111_8
    have HC111_8 := Aside0.mk hl111_8
    clear hi111_8 hl111_8
    replace p111 := eq_true p111
    replace q111 := eq_true q111
    (try clear hx101_8)
    (try clear hx102_8)
    (try clear hx103_8)
    (try clear hx105_8)
    (try clear hx107_8)
    (try clear hx109_8)
    go_wp2
    go_ret
    exact ⟨by first | rfl | (simp [*, aw_, av_] <;> rfl), bz HB.out⟩
   rw [if_pos c23] at H
   have c23b0 : decide (x4_1 < (((am_ l0 0).f6).length : Int)) = true := decide_eq_true c23
   clear c23
   by_cases c24 : 0 ≤ x4_1
   rotate_left
   ·rw [if_neg c24] at H
    exact absurd H (by simp)
   rw [if_pos c24] at H
   have c24b0 : decide (0 ≤ x4_1) = true := decide_eq_true c24
   clear c24
   obtain ⟨y115, hy115⟩ : ∃ y_ : List Int, y_ = (([(bQ_ ((am_ l0 0).f6) x4_1).f0, (bQ_ ((am_ l0 0).f6) x4_1).f1, (bQ_ ((am_ l0 0).f6) x4_1).f2, (bQ_ ((am_ l0 0).f6) x4_1).f3] : List Int)) := ⟨_, rfl⟩
   replace H : ((bC_.f k1 y115).bind fun t118 => (if 1 + t118.size ≤ 9223372036854775807 then (if x3_1.size + (1 + t118.size) ≤ 9223372036854775807 then (bg_.l0 k1 l0 (x3_1 ++ ((⟨#[47]⟩ : ByteArray) ++ t118)) (wrap64 (x4_1 + 1))) else (none)) else (none))) = some r := by first | (rw [hy115]; with_reducible exact H) | (have H2_ := (Option.bind_some _ _).symm.trans H; rw [hy115]; with_reducible exact H2_) | (have H2_ := (Option.bind_some _ _).symm.trans H; with_reducible exact H2_) | with_reducible exact H | (rw [hy115]; exact H) | exact H
   have Ny115 := Aside0.mk hy115
   clear hy115
   replace H := Option.bind_eq_some_iff.mp H
   obtain ⟨t118, A250, H⟩ := H
   (try dsimp only at H)
   have A25 := Aside0.mk A250
   clear A250
   by_cases c26 : 1 + t118.size ≤ 9223372036854775807
   rotate_left
   ·rw [if_neg c26] at H
    exact absurd H (by simp)
   rw [if_pos c26] at H
   have c26b0 := eq_true c26
   have c26b1 : decide (1 + t118.size ≤ 9223372036854775807) = true := decide_eq_true c26
   try have c26b2 : (9223372036854775807 < 1 + t118.size) = False := eq_false (Nat.not_lt.2 c26)
   by_cases c27 : x3_1.size + (1 + t118.size) ≤ 9223372036854775807
   rotate_left
   ·rw [if_neg c27] at H
    exact absurd H (by simp)
   rw [if_pos c27] at H
   have c27b0 := eq_true c27
   have c27b1 : decide (x3_1.size + (1 + t118.size) ≤ 9223372036854775807) = true := decide_eq_true c27
   try have c27b2 : (9223372036854775807 < x3_1.size + (1 + t118.size)) = False := eq_false (Nat.not_lt.2 c27)
   have H' := Aside0.mk H
   clear H
   have p111 : 0 ≤ (0 : Int) := (by omega)
   have q111 : 0 < (l0.length : Int) := of_decide_eq_true (by assumption)
   obtain ⟨ad111, A111_8, c111_8, e111, hx111_0, hx111_1, hx111_2, hx111_3, hx111_4, hx111_5, hx111_6, hx111_7, hx111_8, hl111_8, hi111_8⟩ := at_T97 HR0.out 0 p111 q111
   obtain rfl : ad101 = ad111 := (by injection e111)
   have qi111 : (0 < l0.length) = True := eq_true (by omega)
   (try simp only [Int.toNat_zero, Nat.zero_mul, Addr.add_zero'] at hx111_0 hx111_1)
   (try simp only [Int.toNat_zero, Nat.zero_mul, Addr.add_zero'] at hx111_2 hx111_3)
   (try simp only [Int.toNat_zero, Nat.zero_mul, Addr.add_zero'] at hx111_4 hx111_5)
   (try simp only [Int.toNat_zero, Nat.zero_mul, Addr.add_zero'] at hx111_6 hx111_7 hx111_8)
   replace hx111_0 := bu_ HB.out hx111_0
   replace hx111_1 := bu_ HB.out hx111_1
   replace hx111_2 := bu_ HB.out hx111_2
   replace hx111_3 := bu_ HB.out hx111_3
   replace hx111_4 := bu_ HB.out hx111_4
   replace hx111_5 := bu_ HB.out hx111_5
   replace hx111_6 := bu_ HB.out hx111_6
   replace hx111_7 := bu_ HB.out hx111_7
   replace hx111_8 := bu_ HB.out hx111_8
   have HR111_8 := Aside0.mk hi111_8
   have HC111_8 := Aside0.mk hl111_8
   clear hi111_8 hl111_8
   replace p111 := eq_true p111
   replace q111 := eq_true q111
   (try clear hx101_8)
   (try clear hx102_8)
   (try clear hx103_8)
   (try clear hx105_8)
   (try clear hx107_8)
   (try clear hx109_8)
   have p112 : 0 ≤ (0 : Int) := (by omega)
   have q112 : 0 < (l0.length : Int) := of_decide_eq_true (by assumption)
   obtain ⟨ad112, A112_8, c112_8, e112, hx112_0, hx112_1, hx112_2, hx112_3, hx112_4, hx112_5, hx112_6, hx112_7, hx112_8, hl112_8, hi112_8⟩ := at_T97 HR0.out 0 p112 q112
   obtain rfl : ad101 = ad112 := (by injection e112)
   have qi112 : (0 < l0.length) = True := eq_true (by omega)
   (try simp only [Int.toNat_zero, Nat.zero_mul, Addr.add_zero'] at hx112_0 hx112_1)
   (try simp only [Int.toNat_zero, Nat.zero_mul, Addr.add_zero'] at hx112_2 hx112_3)
   (try simp only [Int.toNat_zero, Nat.zero_mul, Addr.add_zero'] at hx112_4 hx112_5)
   (try simp only [Int.toNat_zero, Nat.zero_mul, Addr.add_zero'] at hx112_6 hx112_7 hx112_8)
   replace hx112_0 := bu_ HB.out hx112_0
   replace hx112_1 := bu_ HB.out hx112_1
   replace hx112_2 := bu_ HB.out hx112_2
   replace hx112_3 := bu_ HB.out hx112_3
   replace hx112_4 := bu_ HB.out hx112_4
   replace hx112_5 := bu_ HB.out hx112_5
   replace hx112_6 := bu_ HB.out hx112_6
   replace hx112_7 := bu_ HB.out hx112_7
   replace hx112_8 := bu_ HB.out hx112_8
   have HR112_8 := Aside0.mk hi112_8
   have HC112_8 := Aside0.mk hl112_8
   clear hi112_8 hl112_8
   replace p112 := eq_true p112
   replace q112 := eq_true q112
   have ea_ := Option.some.inj (hx111_8.symm.trans hx112_8)
   injection ea_ with ea_ en_ ec_
   (try subst ea_)
   (try subst ec_)
   (try clear ea_ ec_)
   clear en_
   have p113 : 0 ≤ (x4_1 : Int) := of_decide_eq_true (by assumption)
   have q113 : x4_1 < (((am_ l0 0).f6).length : Int) := of_decide_eq_true (by assumption)
   obtain ⟨ad113, e113, hx113_0, hx113_1, hx113_2, hx113_3⟩ := at_T107 HR112_8.out x4_1 p113 q113
   cases e113
   replace hx113_0 := bu_ HB.out hx113_0
   replace hx113_1 := bu_ HB.out hx113_1
   replace hx113_2 := bu_ HB.out hx113_2
   replace hx113_3 := bu_ HB.out hx113_3
   replace p113 := eq_true p113
   replace q113 := eq_true q113
   go_wp2_with (first | ((with_reducible refine aS_ (N := 5) rfl ?_); refine bB_ ?hg (N := 5) ?hd (cs := #[.int .i64 0, .int .i64 0, .int .i64 0, .int .i64 0]) (t := 107) ?hr ?_; (case hd => rfl); (case hg => rfl); (case hr => (go_simp; try rfl)); intro gb114 hg w28 hbox hb; have BK114 := Aside0.mk (hbox); have GW114 := Aside0.mk ((by rw [hg]; exact (ak_ (bz HB.out)) : w.heap.size ≤ gb114)); have GE114 := GW114; replace HB := Aside0.mk (ah_ (bz HB.out) hb); clear hb hbox hg; obtain ⟨hcz29_0, hcz29_1, hcz29_2, hcz29_3⟩ := cz4_ BK114.out; obtain ⟨hfz29_0, hfz29_1, hfz29_2, hfz29_3⟩ := fz4_ BK114.out) | ((with_reducible refine aS_ (N := 68) rfl ?_); refine Kd.R_lit (Kd.int .i64) _ 2 ?hg (N := 68) ?hd (xs := ([(bQ_ ((am_ l0 0).f6) x4_1).f0, (bQ_ ((am_ l0 0).f6) x4_1).f1, (bQ_ ((am_ l0 0).f6) x4_1).f2, (bQ_ ((am_ l0 0).f6) x4_1).f3] : List Int)) (inner := [.int .i64 ((bQ_ ((am_ l0 0).f6) x4_1).f0), .int .i64 ((bQ_ ((am_ l0 0).f6) x4_1).f1), .int .i64 ((bQ_ ((am_ l0 0).f6) x4_1).f2), .int .i64 ((bQ_ ((am_ l0 0).f6) x4_1).f3)]) (ok := fun _ => True) (okp := fun _ => True) ?hr ?hp (fun _ hk => hk) trivial (Below.refl _ _) (Nat.le_refl _) (by simp) ?_; (case hd => rfl); (case hg => rfl); (case hr => (go_simp; try rfl)); (case hp => exact (Reps.one (show Kd.M (Kd.int .i64) _ _ _ ((bQ_ ((am_ l0 0).f6) x4_1).f0) [.int .i64 ((bQ_ ((am_ l0 0).f6) x4_1).f0)] from rfl) (Reps.one (show Kd.M (Kd.int .i64) _ _ _ ((bQ_ ((am_ l0 0).f6) x4_1).f1) [.int .i64 ((bQ_ ((am_ l0 0).f6) x4_1).f1)] from rfl) (Reps.one (show Kd.M (Kd.int .i64) _ _ _ ((bQ_ ((am_ l0 0).f6) x4_1).f2) [.int .i64 ((bQ_ ((am_ l0 0).f6) x4_1).f2)] from rfl) (Reps.one (show Kd.M (Kd.int .i64) _ _ _ ((bQ_ ((am_ l0 0).f6) x4_1).f3) [.int .i64 ((bQ_ ((am_ l0 0).f6) x4_1).f3)] from rfl) (Reps.none _ _)))))); intro v116 w30 ho31 hb hg_ hnew_; clear hg_ hnew_; (first | rw [← Ny115.out] at ho31 | (simp only [Int.reduceToNat] at ho31; rw [← Ny115.out] at ho31)); have HO117 := Aside0.mk (Kd.bw_ ho31 (ak_ (bq))); replace BK114 := Aside0.mk (az_ (g := gb114) (o := .cells #[.int .i64 ((bQ_ ((am_ l0 0).f6) x4_1).f0), .int .i64 ((bQ_ ((am_ l0 0).f6) x4_1).f1), .int .i64 ((bQ_ ((am_ l0 0).f6) x4_1).f2), .int .i64 ((bQ_ ((am_ l0 0).f6) x4_1).f3)] 107 (0, 0)) (by exact kj4_3 (kj4_2 (kj4_1 (kj4_0 (kz BK114.out))))) hb); replace HB := Aside0.mk (ah_ (bq) hb); clear hb ho31; obtain ⟨Ao32, co32, eo32⟩ := Kd.bL_ HO117.out; subst eo32) | ((with_reducible refine al_ (f := 100) rfl ?_); refine bf_ (some 69) rfl rfl Tryd.func100 (by kernel_rfl) rfl #[.slice Ao32 y115.length co32] rfl (by first | rfl | (simp only [lma_, lmc_, lmn_]; first | done | rfl)) ?_; (with_reducible refine (bC_.calls k1 _ _ y115 t118 _ ?side1 ?side2 A25.out).mono ?_); (case side1 => exact cz (Kd.aE_ HO117.out).2.2); (case side2 => exact (Kd.aE_ HO117.out).2.1); rintro e w33 ⟨rfl, hb⟩; refine ⟨_, rfl, ?_⟩; replace HO117 := Aside0.mk (Kd.bI_ (rz HO117.out) hb); replace BK114 := Aside0.mk (az_ (kz BK114.out) hb); replace HB := Aside0.mk (ah_ (bq) hb); (try clear hb)))
   go_roundg k1
   case measure => have := HK1.out; omega
   case rel => exact ⟨(x3_1 ++ ((⟨#[47]⟩ : ByteArray) ++ t118)), (wrap64 (x4_1 + 1)), (by first | rfl | (simp; done) | (simp [*]; done)), (by first | rfl | (simp; done) | (simp [*]; done)), H', ⟨by have := HK1.out; omega⟩, ⟨bq⟩⟩
mutual
def ap_.j0 : Nat → List Int → Int → Int → ByteArray → ByteArray → ByteArray → Option (ByteArray × ByteArray × ByteArray × Int × Int)
 | 0, _, _, _, _, _, _ => none
 | k + 1, x1000, x1001, x1002, x109000, x109001, x109002 => if x109000.toList = ([108, 101, 97, 102] : List UInt8) then ((by_.f x1000 x1001 x1002 2).bind fun bt127 => (ap_.j1 k bt127.1 x1000 bt127.2.1 bt127.2.2 x109000 x109001 x109002)) else (ap_.j1 k false x1000 x1001 x1002 x109000 x109001 x109002)
def ap_.j1 : Nat → Bool → List Int → Int → Int → ByteArray → ByteArray → ByteArray → Option (ByteArray × ByteArray × ByteArray × Int × Int)
 | 0, _, _, _, _, _, _, _ => none
 | k + 1, x31, x1000, x1001, x1002, x109000, x109001, x109002 => if x31 = true then ((aH_.f k x1000 x1001 x1002 x109001).bind fun bt130 => ((bg_.f k [(⟨bt130.1, bt130.2.1, bt130.2.2.1, (⟨bt130.2.2.2.1, bt130.2.2.2.2.1, bt130.2.2.2.2.2.1⟩ : S94), bt130.2.2.2.2.2.2.1, bt130.2.2.2.2.2.2.2.1, bt130.2.2.2.2.2.2.2.2.1⟩ : S97)]).bind fun t144 => (ap_.j2 k x1000 bt130.2.2.2.2.2.2.2.2.2.1 bt130.2.2.2.2.2.2.2.2.2.2 x109000 x109001 t144))) else (ap_.j2 k x1000 x1001 x1002 x109000 x109001 x109002)
def ap_.j2 : Nat → List Int → Int → Int → ByteArray → ByteArray → ByteArray → Option (ByteArray × ByteArray × ByteArray × Int × Int)
 | 0, _, _, _, _, _, _ => none
 | k + 1, x1000, x1001, x1002, x109000, x109001, x109002 => (by_.f x1000 x1001 x1002 24).bind fun bt145 => (if bt145.1 = true then ((aj_.f x1000 bt145.2.1 bt145.2.2 3).bind fun bt148 => (if 0 ≤ (wrap64 (399 + bt148.1)) then (if (wrap64 (399 + bt148.1) : Int).toNat ≤ 281474976710656 then (some (x109000, x109001, strOfNums (List.replicate (wrap64 (399 + bt148.1) : Int).toNat 0), bt148.2.1, bt148.2.2)) else (none)) else (none))) else (some (x109000, x109001, x109002, bt145.2.1, bt145.2.2)))
end
def ap_.f (k : Nat) (s0_0 : List Int) (s0_1 : Int) (s0_2 : Int) : Option (ByteArray × ByteArray × ByteArray × Int × Int) := (aR_.f s0_0 s0_1 s0_2 (([(⟨#[108, 101, 97, 102]⟩ : ByteArray), (⟨#[110, 111, 116, 101]⟩ : ByteArray), (⟨#[102, 97, 99, 101]⟩ : ByteArray)] : List ByteArray))).bind fun bt105 => ((aR_.f s0_0 bt105.2.1 bt105.2.2 (([(⟨#[97]⟩ : ByteArray), (⟨#[98]⟩ : ByteArray), (⟨#[99]⟩ : ByteArray), (⟨#[100]⟩ : ByteArray)] : List ByteArray))).bind fun bt112 => ((aR_.f s0_0 bt112.2.1 bt112.2.2 (([(⟨#[]⟩ : ByteArray), (⟨#[120]⟩ : ByteArray), (⟨#[97, 32, 98, 32, 99]⟩ : ByteArray), (⟨#[49, 50, 32, 51, 52]⟩ : ByteArray), (⟨#[111, 97, 107, 47, 52, 48]⟩ : ByteArray)] : List ByteArray))).bind fun bt118 => ((by_.f s0_0 bt118.2.1 bt118.2.2 4).bind fun bt121 => (if bt121.1 = true then ((aQ_.f k s0_0 bt121.2.1 bt121.2.2 9).bind fun bt124 => (if bt118.1.size + bt124.1.size ≤ 9223372036854775807 then (ap_.j0 k s0_0 bt124.2.1 bt124.2.2 bt105.1 bt112.1 (bt118.1 ++ bt124.1)) else (none))) else (ap_.j0 k s0_0 bt121.2.1 bt121.2.2 bt105.1 bt112.1 bt118.1)))))
set_option maxHeartbeats 8000000 in
set_option maxRecDepth 100000 in
theorem ap_.calls (k : Nat) (g : Nat) (s0_0 : List Int) (s0_1 : Int) (s0_2 : Int) (r1 : ByteArray) (r2 : ByteArray) (r3 : ByteArray) (r4 : Int) (r5 : Int) (w0 w : World) (hI : IsS81 w0 w g s0_0 s0_1 s0_2) (hB : Below w0.heap.size w0 w) (h : ap_.f k s0_0 s0_1 s0_2 = some (r1, r2, r3, r4, r5)) :
  Calls Tryd.prog 67 #[.pointer (some ⟨g, 0, none⟩)] w fun e w' => e = .returned (.agg #[.string r1, .string r2, .string r3]) ∧ IsS81 w0 w' g s0_0 r4 r5 ∧ Below w0.heap.size w0 w' ∧ ac_ w w' g none := by
 have hu43 := Tryd.underlying43
 have hu97 := Tryd.underlying97
 have HI0 := Aside0.mk hI
 have HK := Aside0.mk (ac_.refl w g none)
 have HL := Aside0.mk hB.size
 clear hI
 have HW0 := Aside0.mk hB.size
 have HB := Aside0.mk hB
 clear hB
 have H : ((aR_.f s0_0 s0_1 s0_2 (([(⟨#[108, 101, 97, 102]⟩ : ByteArray), (⟨#[110, 111, 116, 101]⟩ : ByteArray), (⟨#[102, 97, 99, 101]⟩ : ByteArray)] : List ByteArray))).bind fun bt105 => ((aR_.f s0_0 bt105.2.1 bt105.2.2 (([(⟨#[97]⟩ : ByteArray), (⟨#[98]⟩ : ByteArray), (⟨#[99]⟩ : ByteArray), (⟨#[100]⟩ : ByteArray)] : List ByteArray))).bind fun bt112 => ((aR_.f s0_0 bt112.2.1 bt112.2.2 (([(⟨#[]⟩ : ByteArray), (⟨#[120]⟩ : ByteArray), (⟨#[97, 32, 98, 32, 99]⟩ : ByteArray), (⟨#[49, 50, 32, 51, 52]⟩ : ByteArray), (⟨#[111, 97, 107, 47, 52, 48]⟩ : ByteArray)] : List ByteArray))).bind fun bt118 => ((by_.f s0_0 bt118.2.1 bt118.2.2 4).bind fun bt121 => (if bt121.1 = true then ((aQ_.f k s0_0 bt121.2.1 bt121.2.2 9).bind fun bt124 => (if bt118.1.size + bt124.1.size ≤ 9223372036854775807 then (ap_.j0 k s0_0 bt124.2.1 bt124.2.2 bt105.1 bt112.1 (bt118.1 ++ bt124.1)) else (none))) else (ap_.j0 k s0_0 bt121.2.1 bt121.2.2 bt105.1 bt112.1 bt118.1)))))) = some (r1, r2, r3, r4, r5) := h
 clear h
 obtain ⟨y102, hy102⟩ : ∃ y_ : List ByteArray, y_ = (([(⟨#[108, 101, 97, 102]⟩ : ByteArray), (⟨#[110, 111, 116, 101]⟩ : ByteArray), (⟨#[102, 97, 99, 101]⟩ : ByteArray)] : List ByteArray)) := ⟨_, rfl⟩
 replace H : ((aR_.f s0_0 s0_1 s0_2 y102).bind fun bt105 => ((aR_.f s0_0 bt105.2.1 bt105.2.2 (([(⟨#[97]⟩ : ByteArray), (⟨#[98]⟩ : ByteArray), (⟨#[99]⟩ : ByteArray), (⟨#[100]⟩ : ByteArray)] : List ByteArray))).bind fun bt112 => ((aR_.f s0_0 bt112.2.1 bt112.2.2 (([(⟨#[]⟩ : ByteArray), (⟨#[120]⟩ : ByteArray), (⟨#[97, 32, 98, 32, 99]⟩ : ByteArray), (⟨#[49, 50, 32, 51, 52]⟩ : ByteArray), (⟨#[111, 97, 107, 47, 52, 48]⟩ : ByteArray)] : List ByteArray))).bind fun bt118 => ((by_.f s0_0 bt118.2.1 bt118.2.2 4).bind fun bt121 => (if bt121.1 = true then ((aQ_.f k s0_0 bt121.2.1 bt121.2.2 9).bind fun bt124 => (if bt118.1.size + bt124.1.size ≤ 9223372036854775807 then (ap_.j0 k s0_0 bt124.2.1 bt124.2.2 bt105.1 bt112.1 (bt118.1 ++ bt124.1)) else (none))) else (ap_.j0 k s0_0 bt121.2.1 bt121.2.2 bt105.1 bt112.1 bt118.1)))))) = some (r1, r2, r3, r4, r5) := by first | (rw [hy102]; with_reducible exact H) | (have H2_ := (Option.bind_some _ _).symm.trans H; rw [hy102]; with_reducible exact H2_) | (have H2_ := (Option.bind_some _ _).symm.trans H; with_reducible exact H2_) | with_reducible exact H | (rw [hy102]; exact H) | exact H
 have Ny102 := Aside0.mk hy102
 clear hy102
 replace H := Option.bind_eq_some_iff.mp H
 obtain ⟨⟨t105, t106, t107⟩, A20, H⟩ := H
 (try dsimp only at H)
 have A2 := Aside0.mk A20
 clear A20
 obtain ⟨y109, hy109⟩ : ∃ y_ : List ByteArray, y_ = (([(⟨#[97]⟩ : ByteArray), (⟨#[98]⟩ : ByteArray), (⟨#[99]⟩ : ByteArray), (⟨#[100]⟩ : ByteArray)] : List ByteArray)) := ⟨_, rfl⟩
 replace H : ((aR_.f s0_0 t106 t107 y109).bind fun bt112 => ((aR_.f s0_0 bt112.2.1 bt112.2.2 (([(⟨#[]⟩ : ByteArray), (⟨#[120]⟩ : ByteArray), (⟨#[97, 32, 98, 32, 99]⟩ : ByteArray), (⟨#[49, 50, 32, 51, 52]⟩ : ByteArray), (⟨#[111, 97, 107, 47, 52, 48]⟩ : ByteArray)] : List ByteArray))).bind fun bt118 => ((by_.f s0_0 bt118.2.1 bt118.2.2 4).bind fun bt121 => (if bt121.1 = true then ((aQ_.f k s0_0 bt121.2.1 bt121.2.2 9).bind fun bt124 => (if bt118.1.size + bt124.1.size ≤ 9223372036854775807 then (ap_.j0 k s0_0 bt124.2.1 bt124.2.2 t105 bt112.1 (bt118.1 ++ bt124.1)) else (none))) else (ap_.j0 k s0_0 bt121.2.1 bt121.2.2 t105 bt112.1 bt118.1))))) = some (r1, r2, r3, r4, r5) := by first | (rw [hy109]; with_reducible exact H) | (have H2_ := (Option.bind_some _ _).symm.trans H; rw [hy109]; with_reducible exact H2_) | (have H2_ := (Option.bind_some _ _).symm.trans H; with_reducible exact H2_) | with_reducible exact H | (rw [hy109]; exact H) | exact H
 have Ny109 := Aside0.mk hy109
 clear hy109
 replace H := Option.bind_eq_some_iff.mp H
 obtain ⟨⟨t112, t113, t114⟩, A30, H⟩ := H
 (try dsimp only at H)
 have A3 := Aside0.mk A30
 clear A30
 obtain ⟨y115, hy115⟩ : ∃ y_ : List ByteArray, y_ = (([(⟨#[]⟩ : ByteArray), (⟨#[120]⟩ : ByteArray), (⟨#[97, 32, 98, 32, 99]⟩ : ByteArray), (⟨#[49, 50, 32, 51, 52]⟩ : ByteArray), (⟨#[111, 97, 107, 47, 52, 48]⟩ : ByteArray)] : List ByteArray)) := ⟨_, rfl⟩
 replace H : ((aR_.f s0_0 t113 t114 y115).bind fun bt118 => ((by_.f s0_0 bt118.2.1 bt118.2.2 4).bind fun bt121 => (if bt121.1 = true then ((aQ_.f k s0_0 bt121.2.1 bt121.2.2 9).bind fun bt124 => (if bt118.1.size + bt124.1.size ≤ 9223372036854775807 then (ap_.j0 k s0_0 bt124.2.1 bt124.2.2 t105 t112 (bt118.1 ++ bt124.1)) else (none))) else (ap_.j0 k s0_0 bt121.2.1 bt121.2.2 t105 t112 bt118.1)))) = some (r1, r2, r3, r4, r5) := by first | (rw [hy115]; with_reducible exact H) | (have H2_ := (Option.bind_some _ _).symm.trans H; rw [hy115]; with_reducible exact H2_) | (have H2_ := (Option.bind_some _ _).symm.trans H; with_reducible exact H2_) | with_reducible exact H | (rw [hy115]; exact H) | exact H
 have Ny115 := Aside0.mk hy115
 clear hy115
 replace H := Option.bind_eq_some_iff.mp H
 obtain ⟨⟨t118, t119, t120⟩, A40, H⟩ := H
 (try dsimp only at H)
 have A4 := Aside0.mk A40
 clear A40
 replace H := Option.bind_eq_some_iff.mp H
 obtain ⟨⟨t121, t122, t123⟩, A50, H⟩ := H
 (try dsimp only at H)
 have A5 := Aside0.mk A50
 clear A50
 have HC6 := Aside0.mk H
 clear H
 go_enter Tryd.func67, Tryd.ntmps67
 go_upto_if 18 with (first | ((with_reducible refine aS_ (N := 2) rfl ?_); refine bB_ ?hg (N := 2) ?hd (cs := #[.string (⟨#[]⟩ : ByteArray), .string (⟨#[]⟩ : ByteArray), .string (⟨#[]⟩ : ByteArray)]) (t := 43) ?hr ?_; (case hd => rfl); (case hg => rfl); (case hr => (go_simp; try rfl)); intro gb101 hg w7 hbox hb; replace HB := Aside0.mk (ah_ (by repeat (first | (with_reducible first | exact HB.out | apply bA_ | apply bN_ | apply bD_ | refine ab_ ?_ (IsS81.ge HI0.out)) | exact HB.out)) hb); have BK101 := Aside0.mk (hbox); have GW101 := Aside0.mk ((by rw [hg]; exact (aZ_ (w := w) (g := g) (row := none) (by repeat (first | (with_reducible first | exact HK.out | apply ac_.set_ | apply ad_ | apply af_ | apply ae_) | exact HK.out))) : w.heap.size ≤ gb101)); have GE101 := Aside0.mk ((Nat.le_trans HW0.out (by rw [hg]; exact (aZ_ (w := w) (g := g) (row := none) (by repeat (first | (with_reducible first | exact HK.out | apply ac_.set_ | apply ad_ | apply af_ | apply ae_) | exact HK.out))) : w.heap.size ≤ gb101) : w0.heap.size ≤ gb101)); replace HK := Aside0.mk (ac_.trans (by repeat (first | (with_reducible first | exact HK.out | apply ac_.set_ | apply ad_ | apply af_ | apply ae_) | exact HK.out)) (ac_.of_below hb g none) (.inl rfl)); have NB0_101 := Aside0.mk ((by rw [hg]; exact Nat.ne_of_lt (IsS81.lt (show IsS81 w0 _ g s0_0 s0_1 s0_2 from by repeat (first | (with_reducible first | exact HI0.out | apply IsS81.alloc | apply IsS81.drewN | apply IsS81.drew | apply IsS81.set_1 | apply IsS81.set_2) | exact HI0.out))) : g ≠ gb101)); have NB101_0 := Aside0.mk ((by rw [hg]; exact Nat.ne_of_gt (IsS81.lt (show IsS81 w0 _ g s0_0 s0_1 s0_2 from by repeat (first | (with_reducible first | exact HI0.out | apply IsS81.alloc | apply IsS81.drewN | apply IsS81.drew | apply IsS81.set_1 | apply IsS81.set_2) | exact HI0.out))) : gb101 ≠ g)); replace HI0 := Aside0.mk (IsS81.below (by repeat (first | (with_reducible first | exact HI0.out | apply IsS81.alloc | apply IsS81.drewN | apply IsS81.drew | apply IsS81.set_1 | apply IsS81.set_2) | exact HI0.out)) hb); clear hb hbox hg) | ((with_reducible refine aS_ (N := 6) rfl ?_); refine Kd.R_lit Kd.string _ 9 ?hg (N := 6) ?hd (xs := ([(⟨#[108, 101, 97, 102]⟩ : ByteArray), (⟨#[110, 111, 116, 101]⟩ : ByteArray), (⟨#[102, 97, 99, 101]⟩ : ByteArray)] : List ByteArray)) (inner := [.string (⟨#[108, 101, 97, 102]⟩ : ByteArray), .string (⟨#[110, 111, 116, 101]⟩ : ByteArray), .string (⟨#[102, 97, 99, 101]⟩ : ByteArray)]) (ok := fun _ => True) (okp := fun _ => True) ?hr ?hp (fun _ hk => hk) trivial (Below.refl _ _) (Nat.le_refl _) (by simp) ?_; (case hd => rfl); (case hg => rfl); (case hr => (go_simp; try rfl)); (case hp => exact (Reps.one (show Kd.M Kd.string _ _ _ (⟨#[108, 101, 97, 102]⟩ : ByteArray) [.string (⟨#[108, 101, 97, 102]⟩ : ByteArray)] from rfl) (Reps.one (show Kd.M Kd.string _ _ _ (⟨#[110, 111, 116, 101]⟩ : ByteArray) [.string (⟨#[110, 111, 116, 101]⟩ : ByteArray)] from rfl) (Reps.one (show Kd.M Kd.string _ _ _ (⟨#[102, 97, 99, 101]⟩ : ByteArray) [.string (⟨#[102, 97, 99, 101]⟩ : ByteArray)] from rfl) (Reps.none _ _))))); intro v103 w8 ho9 hb hg_ hnew_; clear hg_ hnew_; (first | rw [← Ny102.out] at ho9 | (simp only [Int.reduceToNat] at ho9; rw [← Ny102.out] at ho9)); have HO104 := Aside0.mk (Kd.bw_ ho9 (aZ_ (w := w) (g := g) (row := none) (by repeat (first | (with_reducible first | exact HK.out | apply ac_.set_ | apply ad_ | apply af_ | apply ae_ | refine ag_ ?_ GW101.out _) | exact HK.out)))); replace BK101 := Aside0.mk (az_ (kz BK101.out) hb); replace HK := Aside0.mk (ac_.trans (by repeat (first | (with_reducible first | exact HK.out | apply ac_.set_ | apply ad_ | apply af_ | apply ae_ | refine ag_ ?_ GW101.out _) | exact HK.out)) (ac_.of_below hb g none) (.inl rfl)); replace HB := Aside0.mk (ah_ (by repeat (first | (with_reducible first | exact HB.out | apply bA_ | apply bN_ | apply bD_ | refine ab_ ?_ (IsS81.ge HI0.out) | refine ab_ ?_ GE101.out) | exact HB.out)) hb); replace HI0 := Aside0.mk (IsS81.below (by repeat (first | (with_reducible first | exact HI0.out | apply IsS81.alloc | apply IsS81.drewN | apply IsS81.drew | apply IsS81.set_1 | apply IsS81.set_2 | refine IsS81.far ?_ NB0_101.out _) | exact HI0.out)) hb); clear hb ho9; obtain ⟨Ao10, co10, eo10⟩ := Kd.bL_ HO104.out; subst eo10) | ((with_reducible refine al_ (f := 84) rfl ?_); refine bf_ (some 7) rfl rfl Tryd.func84 (by kernel_rfl) rfl #[.pointer (some ⟨g, 0, none⟩), .slice Ao10 y102.length co10] rfl (by first | rfl | (simp only [lma_, lmc_, lmn_]; first | done | rfl)) ?_; (with_reducible refine (aR_.calls g s0_0 s0_1 s0_2 _ _ y102 t105 t106 t107 w0 _ ?side1 ?side2 ?side3 ?side4 ?side5 A2.out).mono ?_); (case side1 => repeat (first | (with_reducible first | exact HI0.out | apply IsS81.alloc | apply IsS81.drewN | apply IsS81.drew | apply IsS81.set_1 | apply IsS81.set_2 | refine IsS81.far ?_ NB0_101.out _) | exact HI0.out)); (case side2 => repeat (first | (with_reducible first | exact HB.out | apply bA_ | apply bN_ | apply bD_ | refine ab_ ?_ (IsS81.ge HI0.out) | refine ab_ ?_ GE101.out) | exact HB.out)); (case side3 => exact cz (Kd.aE_ HO104.out).2.2); (case side4 => exact (Kd.aE_ HO104.out).2.1); (case side5 => exact far_slice (IsS81.own_ne HI0.out HO104.out (by decide))); rintro e w11 ⟨rfl, hi, hb, hk⟩; refine ⟨_, rfl, ?_⟩; replace BK101 := Aside0.mk (ac_.blk hk (g' := gb101) (o := .cells #[.string (⟨#[]⟩ : ByteArray), .string (⟨#[]⟩ : ByteArray), .string (⟨#[]⟩ : ByteArray)] 43 (0, 0)) (kz BK101.out) NB101_0.out (by simp)); replace HO104 := Aside0.mk (Kd.aG_ (Kd.cw_ (IsS81.apart (show IsS81 w0 _ g s0_0 s0_1 s0_2 from by repeat (first | (with_reducible first | exact HI0.out | apply IsS81.alloc | apply IsS81.drewN | apply IsS81.drew | apply IsS81.set_1 | apply IsS81.set_2 | refine IsS81.far ?_ NB0_101.out _) | exact HI0.out)) (rz HO104.out) (by decide)) hk (fun _ h => h.2)) (fun _ h => h.1)); replace HK := Aside0.mk (ac_.trans (by repeat (first | (with_reducible first | exact HK.out | apply ac_.set_ | apply ad_ | apply af_ | apply ae_ | refine ag_ ?_ GW101.out _) | exact HK.out)) hk (.inl rfl)); replace HB := Aside0.mk (hb); replace HI0 := Aside0.mk (hi); (try clear hb)) | ((with_reducible refine aS_ (N := 3) rfl ?_); refine bB_ ?hg (N := 3) ?hd (cs := #[.string (⟨#[]⟩ : ByteArray), .string (⟨#[]⟩ : ByteArray), .string (⟨#[]⟩ : ByteArray)]) (t := 43) ?hr ?_; (case hd => rfl); (case hg => rfl); (case hr => (go_simp; try rfl)); intro gb108 hg w12 hbox hb; replace HO104 := Aside0.mk (Kd.bI_ (rz HO104.out) hb); replace HB := Aside0.mk (ah_ (by repeat (first | (with_reducible first | exact HB.out | apply bA_ | apply bN_ | apply bD_ | refine ab_ ?_ (IsS81.ge HI0.out) | refine ab_ ?_ GE101.out) | exact HB.out)) hb); have BK108 := Aside0.mk (hbox); have GW108 := Aside0.mk ((by rw [hg]; exact (aZ_ (w := w) (g := g) (row := none) (by repeat (first | (with_reducible first | exact HK.out | apply ac_.set_ | apply ad_ | apply af_ | apply ae_ | refine ag_ ?_ GW101.out _) | exact HK.out))) : w.heap.size ≤ gb108)); have GE108 := Aside0.mk ((Nat.le_trans HW0.out (by rw [hg]; exact (aZ_ (w := w) (g := g) (row := none) (by repeat (first | (with_reducible first | exact HK.out | apply ac_.set_ | apply ad_ | apply af_ | apply ae_ | refine ag_ ?_ GW101.out _) | exact HK.out))) : w.heap.size ≤ gb108) : w0.heap.size ≤ gb108)); replace HK := Aside0.mk (ac_.trans (by repeat (first | (with_reducible first | exact HK.out | apply ac_.set_ | apply ad_ | apply af_ | apply ae_ | refine ag_ ?_ GW101.out _) | exact HK.out)) (ac_.of_below hb g none) (.inl rfl)); have NB101_108 := Aside0.mk ((by rw [hg]; exact Nat.ne_of_lt (bX_ (kz BK101.out)) : gb101 ≠ gb108)); have NB108_101 := Aside0.mk ((by rw [hg]; exact Nat.ne_of_gt (bX_ (kz BK101.out)) : gb108 ≠ gb101)); replace BK101 := Aside0.mk (az_ (kz BK101.out) hb); have NB0_108 := Aside0.mk ((by rw [hg]; exact Nat.ne_of_lt (IsS81.lt (show IsS81 w0 _ g s0_0 t106 t107 from by repeat (first | (with_reducible first | exact HI0.out | apply IsS81.alloc | apply IsS81.drewN | apply IsS81.drew | apply IsS81.set_1 | apply IsS81.set_2 | refine IsS81.far ?_ NB0_101.out _) | exact HI0.out))) : g ≠ gb108)); have NB108_0 := Aside0.mk ((by rw [hg]; exact Nat.ne_of_gt (IsS81.lt (show IsS81 w0 _ g s0_0 t106 t107 from by repeat (first | (with_reducible first | exact HI0.out | apply IsS81.alloc | apply IsS81.drewN | apply IsS81.drew | apply IsS81.set_1 | apply IsS81.set_2 | refine IsS81.far ?_ NB0_101.out _) | exact HI0.out))) : gb108 ≠ g)); replace HI0 := Aside0.mk (IsS81.below (by repeat (first | (with_reducible first | exact HI0.out | apply IsS81.alloc | apply IsS81.drewN | apply IsS81.drew | apply IsS81.set_1 | apply IsS81.set_2 | refine IsS81.far ?_ NB0_101.out _) | exact HI0.out)) hb); clear hb hbox hg; have hnb13 := NB108_101.out; have hnc13 := NB101_108.out; have hnb14 := NB108_0.out; have hnc14 := NB0_108.out; obtain ⟨hcz15_0, hcz15_1, hcz15_2⟩ := cz3_ BK108.out; obtain ⟨hfz15_0, hfz15_1, hfz15_2⟩ := fz3_ BK108.out) | ((with_reducible refine aS_ (N := 10) rfl ?_); refine Kd.R_lit Kd.string _ 9 ?hg (N := 10) ?hd (xs := ([(⟨#[97]⟩ : ByteArray), (⟨#[98]⟩ : ByteArray), (⟨#[99]⟩ : ByteArray), (⟨#[100]⟩ : ByteArray)] : List ByteArray)) (inner := [.string (⟨#[97]⟩ : ByteArray), .string (⟨#[98]⟩ : ByteArray), .string (⟨#[99]⟩ : ByteArray), .string (⟨#[100]⟩ : ByteArray)]) (ok := fun _ => True) (okp := fun _ => True) ?hr ?hp (fun _ hk => hk) trivial (Below.refl _ _) (Nat.le_refl _) (by simp) ?_; (case hd => rfl); (case hg => rfl); (case hr => (go_simp; try rfl)); (case hp => exact (Reps.one (show Kd.M Kd.string _ _ _ (⟨#[97]⟩ : ByteArray) [.string (⟨#[97]⟩ : ByteArray)] from rfl) (Reps.one (show Kd.M Kd.string _ _ _ (⟨#[98]⟩ : ByteArray) [.string (⟨#[98]⟩ : ByteArray)] from rfl) (Reps.one (show Kd.M Kd.string _ _ _ (⟨#[99]⟩ : ByteArray) [.string (⟨#[99]⟩ : ByteArray)] from rfl) (Reps.one (show Kd.M Kd.string _ _ _ (⟨#[100]⟩ : ByteArray) [.string (⟨#[100]⟩ : ByteArray)] from rfl) (Reps.none _ _)))))); intro v110 w16 ho17 hb hg_ hnew_; clear hg_ hnew_; (first | rw [← Ny109.out] at ho17 | (simp only [Int.reduceToNat] at ho17; rw [← Ny109.out] at ho17)); have HO111 := Aside0.mk (Kd.bw_ (Kd.bE_ ho17 (Kd.R_lt (rz (Kd.aG_ (Kd.R_far (p := ⟨gb108, 2, none⟩) (Kd.R_far (p := ⟨gb108, 1, none⟩) (Kd.R_far (p := ⟨gb108, 0, none⟩) (Kd.bY_ HO104.out BK108.out (by decide)) (fun _ hk => hk.2) (.string t105)) (fun _ hk => hk.2) (.string (⟨#[]⟩ : ByteArray))) (fun _ hk => hk.2) (.string (⟨#[]⟩ : ByteArray))) (fun _ h_ => h_.1))))) (aZ_ (w := w) (g := g) (row := none) (by repeat (first | (with_reducible first | exact HK.out | apply ac_.set_ | apply ad_ | apply af_ | apply ae_ | refine ag_ ?_ GW101.out _ | refine ag_ ?_ GW108.out _) | exact HK.out)))); replace HO104 := Aside0.mk (Kd.aW_ (rz (Kd.aG_ (Kd.R_far (p := ⟨gb108, 2, none⟩) (Kd.R_far (p := ⟨gb108, 1, none⟩) (Kd.R_far (p := ⟨gb108, 0, none⟩) (Kd.bY_ HO104.out BK108.out (by decide)) (fun _ hk => hk.2) (.string t105)) (fun _ hk => hk.2) (.string (⟨#[]⟩ : ByteArray))) (fun _ hk => hk.2) (.string (⟨#[]⟩ : ByteArray))) (fun _ h_ => h_.1))) (Kd.bs_ ho17) hb); replace BK101 := Aside0.mk (az_ (g := gb101) (o := .cells #[.string (⟨#[]⟩ : ByteArray), .string (⟨#[]⟩ : ByteArray), .string (⟨#[]⟩ : ByteArray)] 43 (0, 0)) (by exact kf (kf (kf (kz BK101.out) NB101_108.out) NB101_108.out) NB101_108.out) hb); replace BK108 := Aside0.mk (az_ (g := gb108) (o := .cells #[.string t105, .string (⟨#[]⟩ : ByteArray), .string (⟨#[]⟩ : ByteArray)] 43 (0, 0)) (by exact kj3_2 (kj3_1 (kj3_0 (kz BK108.out)))) hb); replace HK := Aside0.mk (ac_.trans (by repeat (first | (with_reducible first | exact HK.out | apply ac_.set_ | apply ad_ | apply af_ | apply ae_ | refine ag_ ?_ GW101.out _ | refine ag_ ?_ GW108.out _) | exact HK.out)) (ac_.of_below hb g none) (.inl rfl)); replace HB := Aside0.mk (ah_ (by repeat (first | (with_reducible first | exact HB.out | apply bA_ | apply bN_ | apply bD_ | refine ab_ ?_ (IsS81.ge HI0.out) | refine ab_ ?_ GE101.out | refine ab_ ?_ GE108.out) | exact HB.out)) hb); replace HI0 := Aside0.mk (IsS81.below (show IsS81 w0 (((w12.setCell ⟨gb108, 0, none⟩ (.string t105)).setCell ⟨gb108, 1, none⟩ (.string (⟨#[]⟩ : ByteArray))).setCell ⟨gb108, 2, none⟩ (.string (⟨#[]⟩ : ByteArray))) g s0_0 t106 t107 from by repeat (first | (with_reducible first | exact HI0.out | apply IsS81.alloc | apply IsS81.drewN | apply IsS81.drew | apply IsS81.set_1 | apply IsS81.set_2 | refine IsS81.far ?_ NB0_101.out _ | refine IsS81.far ?_ NB0_108.out _) | exact HI0.out)) hb); clear hb ho17; obtain ⟨Ao18, co18, eo18⟩ := Kd.bL_ HO111.out; subst eo18) | ((with_reducible refine al_ (f := 84) rfl ?_); refine bf_ (some 11) rfl rfl Tryd.func84 (by kernel_rfl) rfl #[.pointer (some ⟨g, 0, none⟩), .slice Ao18 y109.length co18] rfl (by first | rfl | (simp only [lma_, lmc_, lmn_]; first | done | rfl)) ?_; (with_reducible refine (aR_.calls g s0_0 t106 t107 _ _ y109 t112 t113 t114 w0 _ ?side1 ?side2 ?side3 ?side4 ?side5 A3.out).mono ?_); (case side1 => repeat (first | (with_reducible first | exact HI0.out | apply IsS81.alloc | apply IsS81.drewN | apply IsS81.drew | apply IsS81.set_1 | apply IsS81.set_2 | refine IsS81.far ?_ NB0_101.out _ | refine IsS81.far ?_ NB0_108.out _) | exact HI0.out)); (case side2 => repeat (first | (with_reducible first | exact HB.out | apply bA_ | apply bN_ | apply bD_ | refine ab_ ?_ (IsS81.ge HI0.out) | refine ab_ ?_ GE101.out | refine ab_ ?_ GE108.out) | exact HB.out)); (case side3 => exact cz (Kd.aE_ HO111.out).2.2); (case side4 => exact (Kd.aE_ HO111.out).2.1); (case side5 => exact far_slice (IsS81.own_ne HI0.out HO111.out (by decide))); rintro e w19 ⟨rfl, hi, hb, hk⟩; refine ⟨_, rfl, ?_⟩; replace BK101 := Aside0.mk (ac_.blk hk (g' := gb101) (o := .cells #[.string (⟨#[]⟩ : ByteArray), .string (⟨#[]⟩ : ByteArray), .string (⟨#[]⟩ : ByteArray)] 43 (0, 0)) (kz BK101.out) NB101_0.out (by simp)); replace HO104 := Aside0.mk (Kd.aG_ (Kd.cw_ (IsS81.apart (show IsS81 w0 _ g s0_0 t106 t107 from by repeat (first | (with_reducible first | exact HI0.out | apply IsS81.alloc | apply IsS81.drewN | apply IsS81.drew | apply IsS81.set_1 | apply IsS81.set_2 | refine IsS81.far ?_ NB0_101.out _ | refine IsS81.far ?_ NB0_108.out _) | exact HI0.out)) (rz HO104.out) (by decide)) hk (fun _ h => h.2)) (fun _ h => h.1)); replace BK108 := Aside0.mk (ac_.blk hk (g' := gb108) (o := .cells #[.string t105, .string (⟨#[]⟩ : ByteArray), .string (⟨#[]⟩ : ByteArray)] 43 (0, 0)) (kz BK108.out) NB108_0.out (by simp)); replace HO111 := Aside0.mk (Kd.aG_ (Kd.cw_ (IsS81.apart (show IsS81 w0 _ g s0_0 t106 t107 from by repeat (first | (with_reducible first | exact HI0.out | apply IsS81.alloc | apply IsS81.drewN | apply IsS81.drew | apply IsS81.set_1 | apply IsS81.set_2 | refine IsS81.far ?_ NB0_101.out _ | refine IsS81.far ?_ NB0_108.out _) | exact HI0.out)) (rz HO111.out) (by decide)) hk (fun _ h => h.2)) (fun _ h => h.1)); replace HK := Aside0.mk (ac_.trans (by repeat (first | (with_reducible first | exact HK.out | apply ac_.set_ | apply ad_ | apply af_ | apply ae_ | refine ag_ ?_ GW101.out _ | refine ag_ ?_ GW108.out _) | exact HK.out)) hk (.inl rfl)); replace HB := Aside0.mk (hb); replace HI0 := Aside0.mk (hi); (try clear hb); obtain ⟨hcz20_0, hcz20_1, hcz20_2⟩ := cz3_ BK108.out; obtain ⟨hfz20_0, hfz20_1, hfz20_2⟩ := fz3_ BK108.out) | ((with_reducible refine aS_ (N := 14) rfl ?_); refine Kd.R_lit Kd.string _ 9 ?hg (N := 14) ?hd (xs := ([(⟨#[]⟩ : ByteArray), (⟨#[120]⟩ : ByteArray), (⟨#[97, 32, 98, 32, 99]⟩ : ByteArray), (⟨#[49, 50, 32, 51, 52]⟩ : ByteArray), (⟨#[111, 97, 107, 47, 52, 48]⟩ : ByteArray)] : List ByteArray)) (inner := [.string (⟨#[]⟩ : ByteArray), .string (⟨#[120]⟩ : ByteArray), .string (⟨#[97, 32, 98, 32, 99]⟩ : ByteArray), .string (⟨#[49, 50, 32, 51, 52]⟩ : ByteArray), .string (⟨#[111, 97, 107, 47, 52, 48]⟩ : ByteArray)]) (ok := fun _ => True) (okp := fun _ => True) ?hr ?hp (fun _ hk => hk) trivial (Below.refl _ _) (Nat.le_refl _) (by simp) ?_; (case hd => rfl); (case hg => rfl); (case hr => (go_simp; try rfl)); (case hp => exact (Reps.one (show Kd.M Kd.string _ _ _ (⟨#[]⟩ : ByteArray) [.string (⟨#[]⟩ : ByteArray)] from rfl) (Reps.one (show Kd.M Kd.string _ _ _ (⟨#[120]⟩ : ByteArray) [.string (⟨#[120]⟩ : ByteArray)] from rfl) (Reps.one (show Kd.M Kd.string _ _ _ (⟨#[97, 32, 98, 32, 99]⟩ : ByteArray) [.string (⟨#[97, 32, 98, 32, 99]⟩ : ByteArray)] from rfl) (Reps.one (show Kd.M Kd.string _ _ _ (⟨#[49, 50, 32, 51, 52]⟩ : ByteArray) [.string (⟨#[49, 50, 32, 51, 52]⟩ : ByteArray)] from rfl) (Reps.one (show Kd.M Kd.string _ _ _ (⟨#[111, 97, 107, 47, 52, 48]⟩ : ByteArray) [.string (⟨#[111, 97, 107, 47, 52, 48]⟩ : ByteArray)] from rfl) (Reps.none _ _))))))); intro v116 w21 ho22 hb hg_ hnew_; clear hg_ hnew_; (first | rw [← Ny115.out] at ho22 | (simp only [Int.reduceToNat] at ho22; rw [← Ny115.out] at ho22)); have HO117 := Aside0.mk (Kd.bw_ (Kd.bE_ (Kd.bE_ ho22 (Kd.R_lt (rz (Kd.aG_ (Kd.R_far (p := ⟨gb108, 1, none⟩) (Kd.bY_ HO104.out BK108.out (by decide)) (fun _ hk => hk.2) (.string t112)) (fun _ h_ => h_.1))))) (Kd.R_lt (rz (Kd.aG_ (Kd.R_far (p := ⟨gb108, 1, none⟩) (Kd.bY_ HO111.out BK108.out (by decide)) (fun _ hk => hk.2) (.string t112)) (fun _ h_ => h_.1))))) (aZ_ (w := w) (g := g) (row := none) (by repeat (first | (with_reducible first | exact HK.out | apply ac_.set_ | apply ad_ | apply af_ | apply ae_ | refine ag_ ?_ GW101.out _ | refine ag_ ?_ GW108.out _) | exact HK.out)))); replace HO104 := Aside0.mk (Kd.aW_ (rz (Kd.aG_ (Kd.R_far (p := ⟨gb108, 1, none⟩) (Kd.bY_ HO104.out BK108.out (by decide)) (fun _ hk => hk.2) (.string t112)) (fun _ h_ => h_.1))) (Kd.bs_ ho22) hb); replace HO111 := Aside0.mk (Kd.aW_ (rz (Kd.aG_ (Kd.R_far (p := ⟨gb108, 1, none⟩) (Kd.bY_ HO111.out BK108.out (by decide)) (fun _ hk => hk.2) (.string t112)) (fun _ h_ => h_.1))) (Kd.bs_ ho22) hb); replace BK101 := Aside0.mk (az_ (g := gb101) (o := .cells #[.string (⟨#[]⟩ : ByteArray), .string (⟨#[]⟩ : ByteArray), .string (⟨#[]⟩ : ByteArray)] 43 (0, 0)) (by exact kf (kz BK101.out) NB101_108.out) hb); replace BK108 := Aside0.mk (az_ (g := gb108) (o := .cells #[.string t105, .string t112, .string (⟨#[]⟩ : ByteArray)] 43 (0, 0)) (by exact kj3_1 (kz BK108.out)) hb); replace HK := Aside0.mk (ac_.trans (by repeat (first | (with_reducible first | exact HK.out | apply ac_.set_ | apply ad_ | apply af_ | apply ae_ | refine ag_ ?_ GW101.out _ | refine ag_ ?_ GW108.out _) | exact HK.out)) (ac_.of_below hb g none) (.inl rfl)); replace HB := Aside0.mk (ah_ (by repeat (first | (with_reducible first | exact HB.out | apply bA_ | apply bN_ | apply bD_ | refine ab_ ?_ (IsS81.ge HI0.out) | refine ab_ ?_ GE101.out | refine ab_ ?_ GE108.out) | exact HB.out)) hb); replace HI0 := Aside0.mk (IsS81.below (show IsS81 w0 (w19.setCell ⟨gb108, 1, none⟩ (.string t112)) g s0_0 t113 t114 from by repeat (first | (with_reducible first | exact HI0.out | apply IsS81.alloc | apply IsS81.drewN | apply IsS81.drew | apply IsS81.set_1 | apply IsS81.set_2 | refine IsS81.far ?_ NB0_101.out _ | refine IsS81.far ?_ NB0_108.out _) | exact HI0.out)) hb); clear hb ho22; obtain ⟨Ao23, co23, eo23⟩ := Kd.bL_ HO117.out; subst eo23) | ((with_reducible refine al_ (f := 84) rfl ?_); refine bf_ (some 15) rfl rfl Tryd.func84 (by kernel_rfl) rfl #[.pointer (some ⟨g, 0, none⟩), .slice Ao23 y115.length co23] rfl (by first | rfl | (simp only [lma_, lmc_, lmn_]; first | done | rfl)) ?_; (with_reducible refine (aR_.calls g s0_0 t113 t114 _ _ y115 t118 t119 t120 w0 _ ?side1 ?side2 ?side3 ?side4 ?side5 A4.out).mono ?_); (case side1 => repeat (first | (with_reducible first | exact HI0.out | apply IsS81.alloc | apply IsS81.drewN | apply IsS81.drew | apply IsS81.set_1 | apply IsS81.set_2 | refine IsS81.far ?_ NB0_101.out _ | refine IsS81.far ?_ NB0_108.out _) | exact HI0.out)); (case side2 => repeat (first | (with_reducible first | exact HB.out | apply bA_ | apply bN_ | apply bD_ | refine ab_ ?_ (IsS81.ge HI0.out) | refine ab_ ?_ GE101.out | refine ab_ ?_ GE108.out) | exact HB.out)); (case side3 => exact cz (Kd.aE_ HO117.out).2.2); (case side4 => exact (Kd.aE_ HO117.out).2.1); (case side5 => exact far_slice (IsS81.own_ne HI0.out HO117.out (by decide))); rintro e w24 ⟨rfl, hi, hb, hk⟩; refine ⟨_, rfl, ?_⟩; replace BK101 := Aside0.mk (ac_.blk hk (g' := gb101) (o := .cells #[.string (⟨#[]⟩ : ByteArray), .string (⟨#[]⟩ : ByteArray), .string (⟨#[]⟩ : ByteArray)] 43 (0, 0)) (kz BK101.out) NB101_0.out (by simp)); replace HO104 := Aside0.mk (Kd.aG_ (Kd.cw_ (IsS81.apart (show IsS81 w0 _ g s0_0 t113 t114 from by repeat (first | (with_reducible first | exact HI0.out | apply IsS81.alloc | apply IsS81.drewN | apply IsS81.drew | apply IsS81.set_1 | apply IsS81.set_2 | refine IsS81.far ?_ NB0_101.out _ | refine IsS81.far ?_ NB0_108.out _) | exact HI0.out)) (rz HO104.out) (by decide)) hk (fun _ h => h.2)) (fun _ h => h.1)); replace BK108 := Aside0.mk (ac_.blk hk (g' := gb108) (o := .cells #[.string t105, .string t112, .string (⟨#[]⟩ : ByteArray)] 43 (0, 0)) (kz BK108.out) NB108_0.out (by simp)); replace HO111 := Aside0.mk (Kd.aG_ (Kd.cw_ (IsS81.apart (show IsS81 w0 _ g s0_0 t113 t114 from by repeat (first | (with_reducible first | exact HI0.out | apply IsS81.alloc | apply IsS81.drewN | apply IsS81.drew | apply IsS81.set_1 | apply IsS81.set_2 | refine IsS81.far ?_ NB0_101.out _ | refine IsS81.far ?_ NB0_108.out _) | exact HI0.out)) (rz HO111.out) (by decide)) hk (fun _ h => h.2)) (fun _ h => h.1)); replace HO117 := Aside0.mk (Kd.aG_ (Kd.cw_ (IsS81.apart (show IsS81 w0 _ g s0_0 t113 t114 from by repeat (first | (with_reducible first | exact HI0.out | apply IsS81.alloc | apply IsS81.drewN | apply IsS81.drew | apply IsS81.set_1 | apply IsS81.set_2 | refine IsS81.far ?_ NB0_101.out _ | refine IsS81.far ?_ NB0_108.out _) | exact HI0.out)) (rz HO117.out) (by decide)) hk (fun _ h => h.2)) (fun _ h => h.1)); replace HK := Aside0.mk (ac_.trans (by repeat (first | (with_reducible first | exact HK.out | apply ac_.set_ | apply ad_ | apply af_ | apply ae_ | refine ag_ ?_ GW101.out _ | refine ag_ ?_ GW108.out _) | exact HK.out)) hk (.inl rfl)); replace HB := Aside0.mk (hb); replace HI0 := Aside0.mk (hi); (try clear hb); obtain ⟨hcz25_0, hcz25_1, hcz25_2⟩ := cz3_ BK108.out; obtain ⟨hfz25_0, hfz25_1, hfz25_2⟩ := fz3_ BK108.out) | ((with_reducible refine al_ (f := 85) rfl ?_); refine bf_ (some 18) rfl rfl Tryd.func85 (by kernel_rfl) rfl #[.pointer (some ⟨g, 0, none⟩), .int .i64 4] rfl (by first | rfl | (simp only [lma_, lmc_, lmn_]; first | done | rfl)) ?_; (with_reducible refine (by_.calls g s0_0 t119 t120 4 t121 t122 t123 w0 _ ?side1 ?side2 A5.out).mono ?_); (case side1 => repeat (first | (with_reducible first | exact HI0.out | apply IsS81.alloc | apply IsS81.drewN | apply IsS81.drew | apply IsS81.set_1 | apply IsS81.set_2 | refine IsS81.far ?_ NB0_101.out _ | refine IsS81.far ?_ NB0_108.out _) | exact HI0.out)); (case side2 => repeat (first | (with_reducible first | exact HB.out | apply bA_ | apply bN_ | apply bD_ | refine ab_ ?_ (IsS81.ge HI0.out) | refine ab_ ?_ GE101.out | refine ab_ ?_ GE108.out) | exact HB.out)); rintro e w26 ⟨rfl, hi, hb, hk⟩; refine ⟨_, rfl, ?_⟩; replace BK101 := Aside0.mk (ac_.blk hk (g' := gb101) (o := .cells #[.string (⟨#[]⟩ : ByteArray), .string (⟨#[]⟩ : ByteArray), .string (⟨#[]⟩ : ByteArray)] 43 (0, 0)) (by exact kf (kz BK101.out) NB101_108.out) NB101_0.out (by simp)); replace HO104 := Aside0.mk (Kd.aG_ (Kd.cw_ (IsS81.apart (show IsS81 w0 _ g s0_0 t119 t120 from by repeat (first | (with_reducible first | exact HI0.out | apply IsS81.alloc | apply IsS81.drewN | apply IsS81.drew | apply IsS81.set_1 | apply IsS81.set_2 | refine IsS81.far ?_ NB0_101.out _ | refine IsS81.far ?_ NB0_108.out _) | exact HI0.out)) (rz (Kd.aG_ (Kd.R_far (p := ⟨gb108, 2, none⟩) (Kd.bY_ HO104.out BK108.out (by decide)) (fun _ hk => hk.2) (.string t118)) (fun _ h_ => h_.1))) (by decide)) hk (fun _ h => h.2)) (fun _ h => h.1)); replace HO111 := Aside0.mk (Kd.aG_ (Kd.cw_ (IsS81.apart (show IsS81 w0 _ g s0_0 t119 t120 from by repeat (first | (with_reducible first | exact HI0.out | apply IsS81.alloc | apply IsS81.drewN | apply IsS81.drew | apply IsS81.set_1 | apply IsS81.set_2 | refine IsS81.far ?_ NB0_101.out _ | refine IsS81.far ?_ NB0_108.out _) | exact HI0.out)) (rz (Kd.aG_ (Kd.R_far (p := ⟨gb108, 2, none⟩) (Kd.bY_ HO111.out BK108.out (by decide)) (fun _ hk => hk.2) (.string t118)) (fun _ h_ => h_.1))) (by decide)) hk (fun _ h => h.2)) (fun _ h => h.1)); replace HO117 := Aside0.mk (Kd.aG_ (Kd.cw_ (IsS81.apart (show IsS81 w0 _ g s0_0 t119 t120 from by repeat (first | (with_reducible first | exact HI0.out | apply IsS81.alloc | apply IsS81.drewN | apply IsS81.drew | apply IsS81.set_1 | apply IsS81.set_2 | refine IsS81.far ?_ NB0_101.out _ | refine IsS81.far ?_ NB0_108.out _) | exact HI0.out)) (rz (Kd.aG_ (Kd.R_far (p := ⟨gb108, 2, none⟩) (Kd.bY_ HO117.out BK108.out (by decide)) (fun _ hk => hk.2) (.string t118)) (fun _ h_ => h_.1))) (by decide)) hk (fun _ h => h.2)) (fun _ h => h.1)); replace BK108 := Aside0.mk (ac_.blk hk (g' := gb108) (o := .cells #[.string t105, .string t112, .string t118] 43 (0, 0)) (by exact kj3_2 (kz BK108.out)) NB108_0.out (by simp)); replace HK := Aside0.mk (ac_.trans (by repeat (first | (with_reducible first | exact HK.out | apply ac_.set_ | apply ad_ | apply af_ | apply ae_ | refine ag_ ?_ GW101.out _ | refine ag_ ?_ GW108.out _) | exact HK.out)) hk (.inl rfl)); replace HB := Aside0.mk (hb); replace HI0 := Aside0.mk (hi); (try clear hb)))
 (try simp only [Act.put, lsa_, ls0_, ls1_])
 go_cut [] (fun wc => ∃ (kq : Nat) (x1001_5 : Int) (x1002_5 : Int) (x109002_5 : ByteArray), Aside0 (ap_.j0 kq s0_0 x1001_5 x1002_5 t105 t112 x109002_5 = some (r1, r2, r3, r4, r5)) ∧ Aside0 (kq ≤ k) ∧ Aside0 (wc.heap[gb101]? = some (.cells #[.string (⟨#[]⟩ : ByteArray), .string (⟨#[]⟩ : ByteArray), .string (⟨#[]⟩ : ByteArray)] 43 (0, 0))) ∧ Aside0 (wc.heap[gb108]? = some (.cells #[.string t105, .string t112, .string x109002_5] 43 (0, 0))) ∧ Aside0 (IsS81 w0 wc g s0_0 x1001_5 x1002_5) ∧ Aside0 (ac_ w wc g none) ∧ Aside0 (Below w0.heap.size w0 wc))
 case first =>
  have H := HC6.out
  clear HC6
  by_cases c27 : t121 = true
  rotate_left
  ·replace c27 := Bool.eq_false_iff.mpr c27
   subst c27
   have H1 : (ap_.j0 k s0_0 t122 t123 t105 t112 t118) = some (r1, r2, r3, r4, r5) := by rw [if_neg (show ¬ (false = true) by decide)] at H; exact H
   clear H
   have H := H1
   clear H1
   have H' := Aside0.mk H
   clear H
   go_wp2
   go_meet
   case rel => exact ⟨_, (t122), (t123), (t118), H', ⟨by first | omega | exact Nat.le_refl _⟩, ⟨by (with_reducible repeat (first | refine bj_ ?_ _ | refine aX_ ?_ | refine aU_ ?_ _)); exact BK101.out⟩, ⟨by (with_reducible repeat (first | refine bj_ ?_ _ | refine aX_ ?_ | refine aU_ ?_ _)); exact BK108.out⟩, ⟨by repeat (first | (with_reducible first | exact HI0.out | apply IsS81.alloc | apply IsS81.drewN | apply IsS81.drew | apply IsS81.set_1 | apply IsS81.set_2 | refine IsS81.far ?_ NB0_101.out _ | refine IsS81.far ?_ NB0_108.out _) | exact HI0.out)⟩, ⟨by repeat (first | (with_reducible first | exact HK.out | apply ac_.set_ | apply ad_ | apply af_ | apply ae_ | refine ag_ ?_ GW101.out _ | refine ag_ ?_ GW108.out _) | exact HK.out)⟩, ⟨by repeat (first | (with_reducible first | exact HB.out | apply bA_ | apply bN_ | apply bD_ | refine ab_ ?_ (IsS81.ge HI0.out) | refine ab_ ?_ GE101.out | refine ab_ ?_ GE108.out) | exact HB.out)⟩⟩
  subst c27
  have H1 : ((aQ_.f k s0_0 t122 t123 9).bind fun bt124 => (if t118.size + bt124.1.size ≤ 9223372036854775807 then (ap_.j0 k s0_0 bt124.2.1 bt124.2.2 t105 t112 (t118 ++ bt124.1)) else (none))) = some (r1, r2, r3, r4, r5) := by rw [if_pos rfl] at H; exact H
  clear H
  have H := H1
  clear H1
  replace H := Option.bind_eq_some_iff.mp H
  obtain ⟨⟨t124, t125, t126⟩, A280, H⟩ := H
  (try dsimp only at H)
  have A28 := Aside0.mk A280
  clear A280
  by_cases c29 : t118.size + t124.size ≤ 9223372036854775807
  rotate_left
  ·rw [if_neg c29] at H
   exact absurd H (by simp)
  rw [if_pos c29] at H
  have c29b0 := eq_true c29
  have c29b1 : decide (t118.size + t124.size ≤ 9223372036854775807) = true := decide_eq_true c29
  try have c29b2 : (9223372036854775807 < t118.size + t124.size) = False := eq_false (Nat.not_lt.2 c29)
  have H' := Aside0.mk H
  clear H
  try go_wp2
  have n0_ := Aside0.mk (Kd.dd_ HO104.out)
  have n1_ := Aside0.mk (Kd.dd_ HO111.out)
  have n2_ := Aside0.mk (Kd.dd_ HO117.out)
  have n3_ := Aside0.mk (aX_ BK101.out)
  have n4_ := Aside0.mk (aX_ BK108.out)
  have n5_ := Aside0.mk (IsS81.drew HI0.out)
  have n6_ := Aside0.mk (af_ HK.out)
  have n7_ := Aside0.mk (bD_ HB.out)
  clear HO104
  clear HO111
  clear HO117
  clear BK101
  clear BK108
  clear HI0
  clear HK
  clear HB
  have HO104 := n0_
  have HO111 := n1_
  have HO117 := n2_
  have BK101 := n3_
  have BK108 := n4_
  have HI0 := n5_
  have HK := n6_
  have HB := n7_
  clear n0_ n1_ n2_ n3_ n4_ n5_ n6_ n7_
  refine cW_ (n := 7) (S := fun w' => w'.cell? ⟨gb108, 0, none⟩ = some (.string t105) ∧ w'.cell? ⟨gb108, 1, none⟩ = some (.string t112) ∧ w'.cell? ⟨gb108, 2, none⟩ = some (.string t118)) (ds := [6]) #[f_,f_,f_,f_,f_,f_,f_] (by kernel_rfl) rfl rfl ⟨(ar_ BK108.out 0).trans rfl, (ar_ BK108.out 1).trans rfl, (ar_ BK108.out 2).trans rfl⟩ (fun hHeld => ?_)
  generalize w26.drew = w30 at HO104 HO111 HO117 BK101 BK108 HI0 HK HB hHeld ⊢
  refine pure_ (i := 0) (N := some 19) (v := ?_) (a' := ?_) #[t_,f_,f_,f_,f_,f_,f_] rfl rfl (by kernel_rfl) (fun _ _ _ h => h) (Or.inl ⟨by rfl, ?_⟩) ?_ ?_
  rotate_left
  ·intro w'
   go_simp
   with_reducible rfl
  rotate_left
  ·simp only [Act.put, lsa_, ls0_, ls1_, i64_w, i32_w]
   rfl
  refine pure_ (i := 2) (N := some 21) (v := ?_) (a' := ?_) #[t_,f_,t_,f_,f_,f_,f_] rfl rfl (by kernel_rfl) (fun _ _ _ h => h) (Or.inl ⟨by rfl, ?_⟩) ?_ ?_
  rotate_left
  ·intro w'
   go_simp
   with_reducible rfl
  rotate_left
  ·simp only [Act.put, lsa_, ls0_, ls1_, i64_w, i32_w]
   rfl
  refine take_ (i := 1) (N := some 20) (v := ?_) (a' := ?_) #[t_,t_,t_,f_,f_,f_,f_] rfl rfl (by kernel_rfl) (fun _ _ _ h => h) (Or.inl ⟨by rfl, ?_⟩) hHeld ?_ ?_
  rotate_left
  ·rintro w' ⟨s0, s1, s2⟩
   go_simp
   with_reducible rfl
  rotate_left
  ·simp only [Act.put, lsa_, ls0_, ls1_, i64_w, i32_w]
   rfl
  refine one_ (i := 3) (N := some 22) #[t_,t_,t_,t_,f_,f_,f_] rfl rfl (by kernel_rfl) (by decide) (fun K hK => ?_)
  (first | refine goes_ Tryd.func86 (by kernel_rfl) rfl #[.pointer (some ⟨g, 0, none⟩), .int .i64 9] (by rfl) rfl rfl (by first | rfl | (simp only [lma_, lmc_, lmn_]; first | done | rfl)) ?_ | refine RPW.cj_ Tryd.func86 (by kernel_rfl) rfl #[.pointer (some ⟨g, 0, none⟩), .int .i64 9] (by rfl) rfl rfl rfl (by first | rfl | (simp only [lma_, lmc_, lmn_]; first | done | rfl)) ?_ | refine RPW.ci_ Tryd.func86 (by kernel_rfl) rfl #[.pointer (some ⟨g, 0, none⟩), .int .i64 9] (by rfl) rfl rfl rfl (by first | rfl | (simp only [lma_, lmc_, lmn_]; first | done | rfl)) ?_)
  with_reducible refine (aQ_.calls k g s0_0 t122 t123 9 t124 t125 t126 w0 _ ?side1 ?side2 A28.out).mono ?_
  (case side1 => repeat (first | (with_reducible first | exact HI0.out | apply IsS81.alloc | apply IsS81.drewN | apply IsS81.drew | apply IsS81.set_1 | apply IsS81.set_2 | refine IsS81.far ?_ NB0_101.out _ | refine IsS81.far ?_ NB0_108.out _) | exact HI0.out))
  (case side2 => repeat (first | (with_reducible first | exact HB.out | apply bA_ | apply bN_ | apply bD_ | refine ab_ ?_ (IsS81.ge HI0.out) | refine ab_ ?_ GE101.out | refine ab_ ?_ GE108.out) | exact HB.out))
  rintro e w31 ⟨rfl, hi, hb, hk⟩
  refine ⟨_, rfl, ?_⟩
  have n0_ := Aside0.mk (ac_.blk hk (g' := gb101) (o := .cells #[.string (⟨#[]⟩ : ByteArray), .string (⟨#[]⟩ : ByteArray), .string (⟨#[]⟩ : ByteArray)] 43 (0, 0)) (kz BK101.out) NB101_0.out (by simp))
  have n1_ := Aside0.mk (Kd.aG_ (Kd.cw_ (IsS81.apart (show IsS81 w0 _ g s0_0 t122 t123 from by repeat (first | (with_reducible first | exact HI0.out | apply IsS81.alloc | apply IsS81.drewN | apply IsS81.drew | apply IsS81.set_1 | apply IsS81.set_2 | refine IsS81.far ?_ NB0_101.out _ | refine IsS81.far ?_ NB0_108.out _) | exact HI0.out)) (rz HO104.out) (by decide)) hk (fun _ h => h.2)) (fun _ h => h.1))
  have n2_ := Aside0.mk (ac_.blk hk (g' := gb108) (o := .cells #[.string t105, .string t112, .string t118] 43 (0, 0)) (kz BK108.out) NB108_0.out (by simp))
  have n3_ := Aside0.mk (Kd.aG_ (Kd.cw_ (IsS81.apart (show IsS81 w0 _ g s0_0 t122 t123 from by repeat (first | (with_reducible first | exact HI0.out | apply IsS81.alloc | apply IsS81.drewN | apply IsS81.drew | apply IsS81.set_1 | apply IsS81.set_2 | refine IsS81.far ?_ NB0_101.out _ | refine IsS81.far ?_ NB0_108.out _) | exact HI0.out)) (rz HO111.out) (by decide)) hk (fun _ h => h.2)) (fun _ h => h.1))
  have n4_ := Aside0.mk (Kd.aG_ (Kd.cw_ (IsS81.apart (show IsS81 w0 _ g s0_0 t122 t123 from by repeat (first | (with_reducible first | exact HI0.out | apply IsS81.alloc | apply IsS81.drewN | apply IsS81.drew | apply IsS81.set_1 | apply IsS81.set_2 | refine IsS81.far ?_ NB0_101.out _ | refine IsS81.far ?_ NB0_108.out _) | exact HI0.out)) (rz HO117.out) (by decide)) hk (fun _ h => h.2)) (fun _ h => h.1))
  have n5_ := Aside0.mk (ac_.trans (by repeat (first | (with_reducible first | exact HK.out | apply ac_.set_ | apply ad_ | apply af_ | apply ae_ | refine ag_ ?_ GW101.out _ | refine ag_ ?_ GW108.out _) | exact HK.out)) hk (.inl rfl))
  have n6_ := Aside0.mk (hb)
  have n7_ := Aside0.mk (hi)
  clear BK101
  clear HO104
  clear BK108
  clear HO111
  clear HO117
  clear HK
  clear HB
  clear HI0
  have BK101 := n0_
  have HO104 := n1_
  have BK108 := n2_
  have HO111 := n3_
  have HO117 := n4_
  have HK := n5_
  have HB := n6_
  have HI0 := n7_
  clear n0_ n1_ n2_ n3_ n4_ n5_ n6_ n7_
  (try clear hb)
  refine hK.out _ _ ⟨(ar_ BK108.out 0).trans rfl, (ar_ BK108.out 1).trans rfl, (ar_ BK108.out 2).trans rfl⟩ (fun hHeld => ?_)
  clear hK K
  refine norm_ (a' := ?_) ?_ ?_
  rotate_left
  ·show Act.put _ (some 22) _ = _
   simp only [Act.put, lsa_, ls0_, ls1_, i64_w, i32_w]
   rfl
  refine pure_ (i := 4) (N := some 23) (v := ?_) (a' := ?_) #[t_,t_,t_,t_,t_,f_,f_] rfl rfl (by kernel_rfl) (fun _ _ _ h => h) (Or.inl ⟨by rfl, ?_⟩) ?_ ?_
  rotate_left
  ·intro w'
   go_simp
   with_reducible rfl
  rotate_left
  ·simp only [Act.put, lsa_, ls0_, ls1_, i64_w, i32_w]
   rfl
  refine pure_ (i := 5) (N := some 24) (v := ?_) (a' := ?_) #[t_,t_,t_,t_,t_,t_,f_] rfl rfl (by kernel_rfl) (fun _ _ _ h => h) (Or.inl ⟨by rfl, ?_⟩) ?_ ?_
  rotate_left
  ·intro w'
   go_simp
   with_reducible rfl
  rotate_left
  ·simp only [Act.put, lsa_, ls0_, ls1_, i64_w, i32_w]
   rfl
  refine last_ (i := 6) (N := none) #[t_,t_,t_,t_,t_,t_,t_] rfl rfl (by kernel_rfl) (by decide) (fun K hK => ?_)
  have hs32 : w31.cell? ⟨gb108, 2, none⟩ = some (.string t118) := (ar_ BK108.out 2).trans rfl
  have hfs32 := ba_ BK108.out 2
  have hns32_0 := NB101_108.out
  have hms32_0 := NB108_101.out
  refine skip_ (w1 := ?_) (by rfl) rfl ?_ ?_
  rotate_left
  ·go_simp
   rfl
  refine hK.out _ _ ?_
  clear hK K
  refine done_ (by kernel_rfl) ?_
  try go_wp2
  go_meet
  case rel => exact ⟨_, (t125), (t126), (t118 ++ t124), H', ⟨by first | omega | exact Nat.le_refl _⟩, ⟨by exact kf (kz BK101.out) NB101_108.out⟩, ⟨by exact kj3_2 (kz BK108.out)⟩, ⟨by repeat (first | (with_reducible first | exact HI0.out | apply IsS81.alloc | apply IsS81.drewN | apply IsS81.drew | apply IsS81.set_1 | apply IsS81.set_2 | refine IsS81.far ?_ NB0_101.out _ | refine IsS81.far ?_ NB0_108.out _) | exact HI0.out)⟩, ⟨by repeat (first | (with_reducible first | exact HK.out | apply ac_.set_ | apply ad_ | apply af_ | apply ae_ | refine ag_ ?_ GW101.out _ | refine ag_ ?_ GW108.out _) | exact HK.out)⟩, ⟨by repeat (first | (with_reducible first | exact HB.out | apply bA_ | apply bN_ | apply bD_ | refine ab_ ?_ (IsS81.ge HI0.out) | refine ab_ ?_ GE101.out | refine ab_ ?_ GE108.out) | exact HB.out)⟩⟩
 case rest =>
  clear HC6
  obtain ⟨kq, x1001_5, x1002_5, x109002_5, HA, HJ5, BK101, BK108, HI0, HK, HB⟩ := hcut
  cases kq with
  | zero => exact absurd HA.out (by simp [ap_.j0])
  | succ kj5 =>
   have H := HA.out
   clear HA
   simp only [ap_.j0] at H
   have HC33 := Aside0.mk H
   clear H
   go_upto_region 6 with (fail)
   go_cut [31] (fun v31 wc => ∃ (kq : Nat) (x31_32 : Bool) (x1001_32 : Int) (x1002_32 : Int), v31 = .bool x31_32 ∧ Aside0 (ap_.j1 kq x31_32 s0_0 x1001_32 x1002_32 t105 t112 x109002_5 = some (r1, r2, r3, r4, r5)) ∧ Aside0 (kq ≤ kj5) ∧ Aside0 (wc.heap[gb101]? = some (.cells #[.string (⟨#[]⟩ : ByteArray), .string (⟨#[]⟩ : ByteArray), .string (⟨#[]⟩ : ByteArray)] 43 (0, 0))) ∧ Aside0 (wc.heap[gb108]? = some (.cells #[.string t105, .string t112, .string x109002_5] 43 (0, 0))) ∧ Aside0 (IsS81 w0 wc g s0_0 x1001_32 x1002_32) ∧ Aside0 (ac_ w wc g none) ∧ Aside0 (Below w0.heap.size w0 wc))
   case first =>
    have H := HC33.out
    clear HC33
    by_cases c34 : t105.toList = ([108, 101, 97, 102] : List UInt8)
    rotate_left
    ·rw [if_neg c34] at H
     have c34b0 : (t105.toList == ([108, 101, 97, 102] : List UInt8)) = false := beq_eq_false_iff_ne.mpr c34
     have c34b1 : (t105.toList != ([108, 101, 97, 102] : List UInt8)) = true := bne_iff_ne.mpr c34
     (first | rw [c34b0] | (simp only [i64_w, i32_w]; rw [c34b0]) | (simp only [c34b1, Bool.not_true, Bool.not_false]) | (simp only [c34b0, Bool.not_true, Bool.not_false]) | skip)
     have H' := Aside0.mk H
     clear H
     have hnb40 := NB108_101.out
     have hnc40 := NB101_108.out
     have hnb41 := NB108_0.out
     have hnc41 := NB0_108.out
     obtain ⟨hcz42_0, hcz42_1, hcz42_2⟩ := cz3_ BK108.out
     obtain ⟨hfz42_0, hfz42_1, hfz42_2⟩ := fz3_ BK108.out
     go_wp2
     go_meet
     case rel => exact ⟨_, (false), (x1001_5), (x1002_5), (by first | rfl | (simp; done) | (simp [*]; done)), H', ⟨by have := HJ5.out; first | omega | exact Nat.le_refl _⟩, ⟨by (with_reducible repeat (first | refine bj_ ?_ _ | refine aX_ ?_ | refine aU_ ?_ _)); exact BK101.out⟩, ⟨by (with_reducible repeat (first | refine bj_ ?_ _ | refine aX_ ?_ | refine aU_ ?_ _)); exact BK108.out⟩, ⟨by repeat (first | (with_reducible first | exact HI0.out | apply IsS81.alloc | apply IsS81.drewN | apply IsS81.drew | apply IsS81.set_1 | apply IsS81.set_2 | refine IsS81.far ?_ NB0_101.out _ | refine IsS81.far ?_ NB0_108.out _) | exact HI0.out)⟩, ⟨by repeat (first | (with_reducible first | exact HK.out | apply ac_.set_ | apply ad_ | apply af_ | apply ae_ | refine ag_ ?_ GW101.out _ | refine ag_ ?_ GW108.out _) | exact HK.out)⟩, ⟨by repeat (first | (with_reducible first | exact HB.out | apply bA_ | apply bN_ | apply bD_ | refine ab_ ?_ (IsS81.ge HI0.out) | refine ab_ ?_ GE101.out | refine ab_ ?_ GE108.out) | exact HB.out)⟩⟩
    rw [if_pos c34] at H
    have c34b0 : (t105.toList == ([108, 101, 97, 102] : List UInt8)) = true := beq_iff_eq.mpr c34
    have c34b1 : (t105.toList != ([108, 101, 97, 102] : List UInt8)) = false := bne_eq_false_iff_eq.mpr c34
    clear c34
    (first | rw [c34b0] | (simp only [i64_w, i32_w]; rw [c34b0]) | (simp only [c34b1, Bool.not_true, Bool.not_false]) | (simp only [c34b0, Bool.not_true, Bool.not_false]) | skip)
    replace H := Option.bind_eq_some_iff.mp H
    obtain ⟨⟨t127, t128, t129⟩, A350, H⟩ := H
    (try dsimp only at H)
    have A35 := Aside0.mk A350
    clear A350
    have H' := Aside0.mk H
    clear H
    have hnb36 := NB108_101.out
    have hnc36 := NB101_108.out
    have hnb37 := NB108_0.out
    have hnc37 := NB0_108.out
    obtain ⟨hcz38_0, hcz38_1, hcz38_2⟩ := cz3_ BK108.out
    obtain ⟨hfz38_0, hfz38_1, hfz38_2⟩ := fz3_ BK108.out
    go_wp2_with (first | (go_at_call 85; (with_reducible refine (by_.calls g s0_0 x1001_5 x1002_5 2 t127 t128 t129 w0 _ ?side1 ?side2 A35.out).mono ?_); (case side1 => repeat (first | (with_reducible first | exact HI0.out | apply IsS81.alloc | apply IsS81.drewN | apply IsS81.drew | apply IsS81.set_1 | apply IsS81.set_2 | refine IsS81.far ?_ NB0_101.out _ | refine IsS81.far ?_ NB0_108.out _) | exact HI0.out)); (case side2 => repeat (first | (with_reducible first | exact HB.out | apply bA_ | apply bN_ | apply bD_ | refine ab_ ?_ (IsS81.ge HI0.out) | refine ab_ ?_ GE101.out | refine ab_ ?_ GE108.out) | exact HB.out)); rintro e w39 ⟨rfl, hi, hb, hk⟩; replace BK101 := Aside0.mk (ac_.blk hk (g' := gb101) (o := .cells #[.string (⟨#[]⟩ : ByteArray), .string (⟨#[]⟩ : ByteArray), .string (⟨#[]⟩ : ByteArray)] 43 (0, 0)) (kz BK101.out) NB101_0.out (by simp)); replace BK108 := Aside0.mk (ac_.blk hk (g' := gb108) (o := .cells #[.string t105, .string t112, .string x109002_5] 43 (0, 0)) (kz BK108.out) NB108_0.out (by simp)); replace HK := Aside0.mk (ac_.trans (by repeat (first | (with_reducible first | exact HK.out | apply ac_.set_ | apply ad_ | apply af_ | apply ae_ | refine ag_ ?_ GW101.out _ | refine ag_ ?_ GW108.out _) | exact HK.out)) hk (.inl rfl)); replace HB := Aside0.mk (hb); replace HI0 := Aside0.mk (hi); (try clear hb)))
    go_meet
    case rel => exact ⟨_, (t127), (t128), (t129), (by first | rfl | (simp; done) | (simp [*]; done)), H', ⟨by have := HJ5.out; first | omega | exact Nat.le_refl _⟩, ⟨by (with_reducible repeat (first | refine bj_ ?_ _ | refine aX_ ?_ | refine aU_ ?_ _)); exact BK101.out⟩, ⟨by (with_reducible repeat (first | refine bj_ ?_ _ | refine aX_ ?_ | refine aU_ ?_ _)); exact BK108.out⟩, ⟨by repeat (first | (with_reducible first | exact HI0.out | apply IsS81.alloc | apply IsS81.drewN | apply IsS81.drew | apply IsS81.set_1 | apply IsS81.set_2 | refine IsS81.far ?_ NB0_101.out _ | refine IsS81.far ?_ NB0_108.out _) | exact HI0.out)⟩, ⟨by repeat (first | (with_reducible first | exact HK.out | apply ac_.set_ | apply ad_ | apply af_ | apply ae_ | refine ag_ ?_ GW101.out _ | refine ag_ ?_ GW108.out _) | exact HK.out)⟩, ⟨by repeat (first | (with_reducible first | exact HB.out | apply bA_ | apply bN_ | apply bD_ | refine ab_ ?_ (IsS81.ge HI0.out) | refine ab_ ?_ GE101.out | refine ab_ ?_ GE108.out) | exact HB.out)⟩⟩
   case rest =>
    clear HC33
    obtain ⟨kq, x31_32, x1001_32, x1002_32, rfl, HA, HJ32, BK101, BK108, HI0, HK, HB⟩ := hcut
    cases kq with
    | zero => exact absurd HA.out (by simp [ap_.j1])
    | succ kj32 =>
     have H := HA.out
     clear HA
     simp only [ap_.j1] at H
     have HC43 := Aside0.mk H
     clear H
     go_upto_if 31 with (fail)
     go_cut [] (fun wc => ∃ (kq : Nat) (x1001_42 : Int) (x1002_42 : Int) (x109002_42 : ByteArray), Aside0 (ap_.j2 kq s0_0 x1001_42 x1002_42 t105 t112 x109002_42 = some (r1, r2, r3, r4, r5)) ∧ Aside0 (kq ≤ kj32) ∧ Aside0 (wc.heap[gb101]? = some (.cells #[.string (⟨#[]⟩ : ByteArray), .string (⟨#[]⟩ : ByteArray), .string (⟨#[]⟩ : ByteArray)] 43 (0, 0))) ∧ Aside0 (wc.heap[gb108]? = some (.cells #[.string t105, .string t112, .string x109002_42] 43 (0, 0))) ∧ Aside0 (IsS81 w0 wc g s0_0 x1001_42 x1002_42) ∧ Aside0 (ac_ w wc g none) ∧ Aside0 (Below w0.heap.size w0 wc))
     case first =>
      have H := HC43.out
      clear HC43
      by_cases c44 : x31_32 = true
      rotate_left
      ·replace c44 := Bool.eq_false_iff.mpr c44
       subst c44
       have H1 : (ap_.j2 kj32 s0_0 x1001_32 x1002_32 t105 t112 x109002_5) = some (r1, r2, r3, r4, r5) := by rw [if_neg (show ¬ (false = true) by decide)] at H; exact H
       clear H
       have H := H1
       clear H1
       have H' := Aside0.mk H
       clear H
       go_wp2
       go_meet
       case rel => exact ⟨_, (x1001_32), (x1002_32), (x109002_5), H', ⟨by have := HJ5.out; have := HJ32.out; first | omega | exact Nat.le_refl _⟩, ⟨by (with_reducible repeat (first | refine bj_ ?_ _ | refine aX_ ?_ | refine aU_ ?_ _)); exact BK101.out⟩, ⟨by (with_reducible repeat (first | refine bj_ ?_ _ | refine aX_ ?_ | refine aU_ ?_ _)); exact BK108.out⟩, ⟨by repeat (first | (with_reducible first | exact HI0.out | apply IsS81.alloc | apply IsS81.drewN | apply IsS81.drew | apply IsS81.set_1 | apply IsS81.set_2 | refine IsS81.far ?_ NB0_101.out _ | refine IsS81.far ?_ NB0_108.out _) | exact HI0.out)⟩, ⟨by repeat (first | (with_reducible first | exact HK.out | apply ac_.set_ | apply ad_ | apply af_ | apply ae_ | refine ag_ ?_ GW101.out _ | refine ag_ ?_ GW108.out _) | exact HK.out)⟩, ⟨by repeat (first | (with_reducible first | exact HB.out | apply bA_ | apply bN_ | apply bD_ | refine ab_ ?_ (IsS81.ge HI0.out) | refine ab_ ?_ GE101.out | refine ab_ ?_ GE108.out) | exact HB.out)⟩⟩
      subst c44
      have H1 : ((aH_.f kj32 s0_0 x1001_32 x1002_32 t112).bind fun bt130 => ((bg_.f kj32 [(⟨bt130.1, bt130.2.1, bt130.2.2.1, (⟨bt130.2.2.2.1, bt130.2.2.2.2.1, bt130.2.2.2.2.2.1⟩ : S94), bt130.2.2.2.2.2.2.1, bt130.2.2.2.2.2.2.2.1, bt130.2.2.2.2.2.2.2.2.1⟩ : S97)]).bind fun t144 => (ap_.j2 kj32 s0_0 bt130.2.2.2.2.2.2.2.2.2.1 bt130.2.2.2.2.2.2.2.2.2.2 t105 t112 t144))) = some (r1, r2, r3, r4, r5) := by rw [if_pos rfl] at H; exact H
      clear H
      have H := H1
      clear H1
      replace H := Option.bind_eq_some_iff.mp H
      obtain ⟨⟨t130, t131, t132, t133, t134, t135, t136, t137, t138, t141, t142⟩, A450, H⟩ := H
      (try dsimp only at H)
      have A45 := Aside0.mk A450
      clear A450
      replace H := Option.bind_eq_some_iff.mp H
      obtain ⟨t144, A460, H⟩ := H
      (try dsimp only at H)
      have A46 := Aside0.mk A460
      clear A460
      have H' := Aside0.mk H
      clear H
      have hnb47 := NB108_101.out
      have hnc47 := NB101_108.out
      have hnb48 := NB108_0.out
      have hnc48 := NB0_108.out
      obtain ⟨hcz49_0, hcz49_1, hcz49_2⟩ := cz3_ BK108.out
      obtain ⟨hfz49_0, hfz49_1, hfz49_2⟩ := fz3_ BK108.out
      go_wp2_with (first | ((with_reducible refine al_ (f := 87) rfl ?_); refine bf_ (some 35) rfl rfl Tryd.func87 (by kernel_rfl) rfl #[.pointer (some ⟨g, 0, none⟩), .string t112] rfl (by first | rfl | (simp only [lma_, lmc_, lmn_]; first | done | rfl)) ?_; (with_reducible refine (aH_.calls kj32 g s0_0 x1001_32 x1002_32 t112 t130 t131 t132 t133 t134 t135 t136 t137 t138 t141 t142 w0 _ ?side1 ?side2 A45.out).mono ?_); (case side1 => repeat (first | (with_reducible first | exact HI0.out | apply IsS81.alloc | apply IsS81.drewN | apply IsS81.drew | apply IsS81.set_1 | apply IsS81.set_2 | refine IsS81.far ?_ NB0_101.out _ | refine IsS81.far ?_ NB0_108.out _) | exact HI0.out)); (case side2 => repeat (first | (with_reducible first | exact HB.out | apply bA_ | apply bN_ | apply bD_ | refine ab_ ?_ (IsS81.ge HI0.out) | refine ab_ ?_ GE101.out | refine ab_ ?_ GE108.out) | exact HB.out)); rintro e w50 ⟨v139, rfl, ho0, hi, hb, hk⟩; refine ⟨_, rfl, ?_⟩; replace BK101 := Aside0.mk (ac_.blk hk (g' := gb101) (o := .cells #[.string (⟨#[]⟩ : ByteArray), .string (⟨#[]⟩ : ByteArray), .string (⟨#[]⟩ : ByteArray)] 43 (0, 0)) (kz BK101.out) NB101_0.out (by simp)); replace BK108 := Aside0.mk (ac_.blk hk (g' := gb108) (o := .cells #[.string t105, .string t112, .string x109002_5] 43 (0, 0)) (kz BK108.out) NB108_0.out (by simp)); have HO140 := Aside0.mk (Kd.bw_ ho0 (aZ_ (w := w) (g := g) (row := none) (by repeat (first | (with_reducible first | exact HK.out | apply ac_.set_ | apply ad_ | apply af_ | apply ae_ | refine ag_ ?_ GW101.out _ | refine ag_ ?_ GW108.out _) | exact HK.out)))); replace HK := Aside0.mk (ac_.trans (by repeat (first | (with_reducible first | exact HK.out | apply ac_.set_ | apply ad_ | apply af_ | apply ae_ | refine ag_ ?_ GW101.out _ | refine ag_ ?_ GW108.out _) | exact HK.out)) hk (.inl rfl)); replace HB := Aside0.mk (hb); replace HI0 := Aside0.mk (hi); (try clear hb); (try clear ho0)) | ((with_reducible refine aS_ (N := 4) rfl ?_); refine bB_ ?hg (N := 4) ?hd (cs := #[.string (⟨#[]⟩ : ByteArray), .string (⟨#[]⟩ : ByteArray), .int .i64 0, .string (⟨#[]⟩ : ByteArray), .int .i64 0, .int .i64 0, .int .i64 0, .int .i64 0, .slice none 0 0]) (t := 97) ?hr ?_; (case hd => rfl); (case hg => rfl); (case hr => (go_simp; try rfl)); intro gb143 hg w51 hbox hb; replace HO140 := Aside0.mk (Kd.bI_ (rz HO140.out) hb); replace HB := Aside0.mk (ah_ (by repeat (first | (with_reducible first | exact HB.out | apply bA_ | apply bN_ | apply bD_ | refine ab_ ?_ (IsS81.ge HI0.out) | refine ab_ ?_ GE101.out | refine ab_ ?_ GE108.out) | exact HB.out)) hb); have BK143 := Aside0.mk (hbox); have GW143 := Aside0.mk ((by rw [hg]; exact (aZ_ (w := w) (g := g) (row := none) (by repeat (first | (with_reducible first | exact HK.out | apply ac_.set_ | apply ad_ | apply af_ | apply ae_ | refine ag_ ?_ GW101.out _ | refine ag_ ?_ GW108.out _) | exact HK.out))) : w.heap.size ≤ gb143)); have GE143 := Aside0.mk ((Nat.le_trans HW0.out (by rw [hg]; exact (aZ_ (w := w) (g := g) (row := none) (by repeat (first | (with_reducible first | exact HK.out | apply ac_.set_ | apply ad_ | apply af_ | apply ae_ | refine ag_ ?_ GW101.out _ | refine ag_ ?_ GW108.out _) | exact HK.out))) : w.heap.size ≤ gb143) : w0.heap.size ≤ gb143)); replace HK := Aside0.mk (ac_.trans (by repeat (first | (with_reducible first | exact HK.out | apply ac_.set_ | apply ad_ | apply af_ | apply ae_ | refine ag_ ?_ GW101.out _ | refine ag_ ?_ GW108.out _) | exact HK.out)) (ac_.of_below hb g none) (.inl rfl)); have NB101_143 := Aside0.mk ((by rw [hg]; exact Nat.ne_of_lt (bX_ (kz BK101.out)) : gb101 ≠ gb143)); have NB143_101 := Aside0.mk ((by rw [hg]; exact Nat.ne_of_gt (bX_ (kz BK101.out)) : gb143 ≠ gb101)); replace BK101 := Aside0.mk (az_ (kz BK101.out) hb); have NB108_143 := Aside0.mk ((by rw [hg]; exact Nat.ne_of_lt (bX_ (kz BK108.out)) : gb108 ≠ gb143)); have NB143_108 := Aside0.mk ((by rw [hg]; exact Nat.ne_of_gt (bX_ (kz BK108.out)) : gb143 ≠ gb108)); replace BK108 := Aside0.mk (az_ (kz BK108.out) hb); have NB0_143 := Aside0.mk ((by rw [hg]; exact Nat.ne_of_lt (IsS81.lt (show IsS81 w0 _ g s0_0 t141 t142 from by repeat (first | (with_reducible first | exact HI0.out | apply IsS81.alloc | apply IsS81.drewN | apply IsS81.drew | apply IsS81.set_1 | apply IsS81.set_2 | refine IsS81.far ?_ NB0_101.out _ | refine IsS81.far ?_ NB0_108.out _) | exact HI0.out))) : g ≠ gb143)); have NB143_0 := Aside0.mk ((by rw [hg]; exact Nat.ne_of_gt (IsS81.lt (show IsS81 w0 _ g s0_0 t141 t142 from by repeat (first | (with_reducible first | exact HI0.out | apply IsS81.alloc | apply IsS81.drewN | apply IsS81.drew | apply IsS81.set_1 | apply IsS81.set_2 | refine IsS81.far ?_ NB0_101.out _ | refine IsS81.far ?_ NB0_108.out _) | exact HI0.out))) : gb143 ≠ g)); replace HI0 := Aside0.mk (IsS81.below (by repeat (first | (with_reducible first | exact HI0.out | apply IsS81.alloc | apply IsS81.drewN | apply IsS81.drew | apply IsS81.set_1 | apply IsS81.set_2 | refine IsS81.far ?_ NB0_101.out _ | refine IsS81.far ?_ NB0_108.out _) | exact HI0.out)) hb); clear hb hbox hg; have hnb52 := NB143_101.out; have hnc52 := NB101_143.out; have hnb53 := NB143_108.out; have hnc53 := NB108_143.out; have hnb54 := NB143_0.out; have hnc54 := NB0_143.out; obtain ⟨hcz55_0, hcz55_1, hcz55_2, hcz55_3, hcz55_4, hcz55_5, hcz55_6, hcz55_7, hcz55_8⟩ := cz9_ BK143.out; obtain ⟨hfz55_0, hfz55_1, hfz55_2, hfz55_3, hfz55_4, hfz55_5, hfz55_6, hfz55_7, hfz55_8⟩ := fz9_ BK143.out; obtain ⟨Ao56, co56, eo56⟩ := Kd.bL_ HO140.out; subst eo56) | ((with_reducible refine al_ (f := 88) rfl ?_); refine bf_ (some 36) rfl rfl Tryd.func88 (by kernel_rfl) rfl #[.pointer (some (Addr.add ⟨gb143, 0, none⟩ 0))] rfl (by first | rfl | (simp only [lma_, lmc_, lmn_]; first | done | rfl)) ?_; (with_reducible refine (bg_.calls kj32 _ [(⟨t130, t131, t132, (⟨t133, t134, t135⟩ : S94), t136, t137, t138⟩ : S97)] t144 _ ?side1 A46.out).mono ?_); (case side1 => exact (RPW.C_blk (cs := [.string t130, .string t131, .int .i64 t132, .string t133, .int .i64 t134, .int .i64 t135, .int .i64 t136, .int .i64 t137, .slice Ao56 t138.length co56]) (t := 97) (g := gb143) (by exact kj9_8 (kj9_7 (kj9_6 (kj9_5 (kj9_4 (kj9_3 (kj9_2 (kj9_1 (kj9_0 (kz BK143.out)))))))))) (k97_mk _ (⟨t130, t131, t132, (⟨t133, t134, t135⟩ : S94), t136, t137, t138⟩ : S97) (by exact (Kd.aE_ HO140.out).2.1) (by refine (Kd.aE_ (e := 107) (base := w.heap.size) (ok := fun k_ => True) (n := t138.length) (c := co56) ?_).2.2; exact (rz (Kd.aG_ (Kd.R_far (p := ⟨gb143, 8, none⟩) (Kd.R_far (p := ⟨gb143, 7, none⟩) (Kd.R_far (p := ⟨gb143, 6, none⟩) (Kd.R_far (p := ⟨gb143, 5, none⟩) (Kd.R_far (p := ⟨gb143, 4, none⟩) (Kd.R_far (p := ⟨gb143, 3, none⟩) (Kd.R_far (p := ⟨gb143, 2, none⟩) (Kd.R_far (p := ⟨gb143, 1, none⟩) (Kd.R_far (p := ⟨gb143, 0, none⟩) (Kd.bY_ HO140.out BK143.out (by decide)) (fun _ hk => hk.2) (.string t130)) (fun _ hk => hk.2) (.string t131)) (fun _ hk => hk.2) (.int .i64 t132)) (fun _ hk => hk.2) (.string t133)) (fun _ hk => hk.2) (.int .i64 t134)) (fun _ hk => hk.2) (.int .i64 t135)) (fun _ hk => hk.2) (.int .i64 t136)) (fun _ hk => hk.2) (.int .i64 t137)) (fun _ hk => hk.2) (.slice Ao56 t138.length co56)) (fun _ h_ => h_.1))))))); rintro e w57 ⟨rfl, hb⟩; refine ⟨_, rfl, ?_⟩; replace HO140 := Aside0.mk (Kd.bI_ (rz (Kd.aG_ (Kd.R_far (p := ⟨gb143, 8, none⟩) (Kd.R_far (p := ⟨gb143, 7, none⟩) (Kd.R_far (p := ⟨gb143, 6, none⟩) (Kd.R_far (p := ⟨gb143, 5, none⟩) (Kd.R_far (p := ⟨gb143, 4, none⟩) (Kd.R_far (p := ⟨gb143, 3, none⟩) (Kd.R_far (p := ⟨gb143, 2, none⟩) (Kd.R_far (p := ⟨gb143, 1, none⟩) (Kd.R_far (p := ⟨gb143, 0, none⟩) (Kd.bY_ HO140.out BK143.out (by decide)) (fun _ hk => hk.2) (.string t130)) (fun _ hk => hk.2) (.string t131)) (fun _ hk => hk.2) (.int .i64 t132)) (fun _ hk => hk.2) (.string t133)) (fun _ hk => hk.2) (.int .i64 t134)) (fun _ hk => hk.2) (.int .i64 t135)) (fun _ hk => hk.2) (.int .i64 t136)) (fun _ hk => hk.2) (.int .i64 t137)) (fun _ hk => hk.2) (.slice Ao56 t138.length co56)) (fun _ h_ => h_.1))) hb); replace BK101 := Aside0.mk (az_ (g := gb101) (o := .cells #[.string (⟨#[]⟩ : ByteArray), .string (⟨#[]⟩ : ByteArray), .string (⟨#[]⟩ : ByteArray)] 43 (0, 0)) (by exact kf (kf (kf (kf (kf (kf (kf (kf (kf (kz BK101.out) NB101_143.out) NB101_143.out) NB101_143.out) NB101_143.out) NB101_143.out) NB101_143.out) NB101_143.out) NB101_143.out) NB101_143.out) hb); replace BK108 := Aside0.mk (az_ (g := gb108) (o := .cells #[.string t105, .string t112, .string x109002_5] 43 (0, 0)) (by exact kf (kf (kf (kf (kf (kf (kf (kf (kf (kz BK108.out) NB108_143.out) NB108_143.out) NB108_143.out) NB108_143.out) NB108_143.out) NB108_143.out) NB108_143.out) NB108_143.out) NB108_143.out) hb); replace BK143 := Aside0.mk (az_ (g := gb143) (o := .cells #[.string t130, .string t131, .int .i64 t132, .string t133, .int .i64 t134, .int .i64 t135, .int .i64 t136, .int .i64 t137, .slice Ao56 t138.length co56] 97 (0, 0)) (by exact kj9_8 (kj9_7 (kj9_6 (kj9_5 (kj9_4 (kj9_3 (kj9_2 (kj9_1 (kj9_0 (kz BK143.out)))))))))) hb); replace HK := Aside0.mk (ac_.trans (by repeat (first | (with_reducible first | exact HK.out | apply ac_.set_ | apply ad_ | apply af_ | apply ae_ | refine ag_ ?_ GW101.out _ | refine ag_ ?_ GW108.out _ | refine ag_ ?_ GW143.out _) | exact HK.out)) (ac_.of_below hb g none) (.inl rfl)); replace HB := Aside0.mk (ah_ (by repeat (first | (with_reducible first | exact HB.out | apply bA_ | apply bN_ | apply bD_ | refine ab_ ?_ (IsS81.ge HI0.out) | refine ab_ ?_ GE101.out | refine ab_ ?_ GE108.out | refine ab_ ?_ GE143.out) | exact HB.out)) hb); replace HI0 := Aside0.mk (IsS81.below (show IsS81 w0 (((((((((w51.setCell ⟨gb143, 0, none⟩ (.string t130)).setCell ⟨gb143, 1, none⟩ (.string t131)).setCell ⟨gb143, 2, none⟩ (.int .i64 t132)).setCell ⟨gb143, 3, none⟩ (.string t133)).setCell ⟨gb143, 4, none⟩ (.int .i64 t134)).setCell ⟨gb143, 5, none⟩ (.int .i64 t135)).setCell ⟨gb143, 6, none⟩ (.int .i64 t136)).setCell ⟨gb143, 7, none⟩ (.int .i64 t137)).setCell ⟨gb143, 8, none⟩ (.slice Ao56 t138.length co56)) g s0_0 t141 t142 from by repeat (first | (with_reducible first | exact HI0.out | apply IsS81.alloc | apply IsS81.drewN | apply IsS81.drew | apply IsS81.set_1 | apply IsS81.set_2 | refine IsS81.far ?_ NB0_101.out _ | refine IsS81.far ?_ NB0_108.out _ | refine IsS81.far ?_ NB0_143.out _) | exact HI0.out)) hb); (try clear hb); obtain ⟨hcz58_0, hcz58_1, hcz58_2⟩ := cz3_ BK108.out; obtain ⟨hfz58_0, hfz58_1, hfz58_2⟩ := fz3_ BK108.out))
      go_meet
      case rel => exact ⟨_, (t141), (t142), (t144), H', ⟨by have := HJ5.out; have := HJ32.out; first | omega | exact Nat.le_refl _⟩, ⟨by exact kf (kz BK101.out) NB101_108.out⟩, ⟨by exact kj3_2 (kz BK108.out)⟩, ⟨by repeat (first | (with_reducible first | exact HI0.out | apply IsS81.alloc | apply IsS81.drewN | apply IsS81.drew | apply IsS81.set_1 | apply IsS81.set_2 | refine IsS81.far ?_ NB0_101.out _ | refine IsS81.far ?_ NB0_108.out _ | refine IsS81.far ?_ NB0_143.out _) | exact HI0.out)⟩, ⟨by repeat (first | (with_reducible first | exact HK.out | apply ac_.set_ | apply ad_ | apply af_ | apply ae_ | refine ag_ ?_ GW101.out _ | refine ag_ ?_ GW108.out _ | refine ag_ ?_ GW143.out _) | exact HK.out)⟩, ⟨by repeat (first | (with_reducible first | exact HB.out | apply bA_ | apply bN_ | apply bD_ | refine ab_ ?_ (IsS81.ge HI0.out) | refine ab_ ?_ GE101.out | refine ab_ ?_ GE108.out | refine ab_ ?_ GE143.out) | exact HB.out)⟩⟩
     case rest =>
      clear HC43
      obtain ⟨kq, x1001_42, x1002_42, x109002_42, HA, HJ42, BK101, BK108, HI0, HK, HB⟩ := hcut
      cases kq with
      | zero => exact absurd HA.out (by simp [ap_.j2])
      | succ kj42 =>
       have H := HA.out
       clear HA
       simp only [ap_.j2] at H
       replace H := Option.bind_eq_some_iff.mp H
       obtain ⟨⟨t145, t146, t147⟩, A590, H⟩ := H
       (try dsimp only at H)
       have A59 := Aside0.mk A590
       clear A590
       have HC60 := Aside0.mk H
       clear H
       go_upto_if 39 with (first | ((with_reducible refine al_ (f := 85) rfl ?_); refine bf_ (some 39) rfl rfl Tryd.func85 (by kernel_rfl) rfl #[.pointer (some ⟨g, 0, none⟩), .int .i64 24] rfl (by first | rfl | (simp only [lma_, lmc_, lmn_]; first | done | rfl)) ?_; (with_reducible refine (by_.calls g s0_0 x1001_42 x1002_42 24 t145 t146 t147 w0 _ ?side1 ?side2 A59.out).mono ?_); (case side1 => repeat (first | (with_reducible first | exact HI0.out | apply IsS81.alloc | apply IsS81.drewN | apply IsS81.drew | apply IsS81.set_1 | apply IsS81.set_2 | refine IsS81.far ?_ NB0_101.out _ | refine IsS81.far ?_ NB0_108.out _) | exact HI0.out)); (case side2 => repeat (first | (with_reducible first | exact HB.out | apply bA_ | apply bN_ | apply bD_ | refine ab_ ?_ (IsS81.ge HI0.out) | refine ab_ ?_ GE101.out | refine ab_ ?_ GE108.out) | exact HB.out)); rintro e w61 ⟨rfl, hi, hb, hk⟩; refine ⟨_, rfl, ?_⟩; replace BK101 := Aside0.mk (ac_.blk hk (g' := gb101) (o := .cells #[.string (⟨#[]⟩ : ByteArray), .string (⟨#[]⟩ : ByteArray), .string (⟨#[]⟩ : ByteArray)] 43 (0, 0)) (kz BK101.out) NB101_0.out (by simp)); replace BK108 := Aside0.mk (ac_.blk hk (g' := gb108) (o := .cells #[.string t105, .string t112, .string x109002_42] 43 (0, 0)) (kz BK108.out) NB108_0.out (by simp)); replace HK := Aside0.mk (ac_.trans (by repeat (first | (with_reducible first | exact HK.out | apply ac_.set_ | apply ad_ | apply af_ | apply ae_ | refine ag_ ?_ GW101.out _ | refine ag_ ?_ GW108.out _) | exact HK.out)) hk (.inl rfl)); replace HB := Aside0.mk (hb); replace HI0 := Aside0.mk (hi); (try clear hb)))
       (try simp only [Act.put, lsa_, ls0_, ls1_])
       have H := HC60.out
       clear HC60
       by_cases c62 : t145 = true
       rotate_left
       ·replace c62 := Bool.eq_false_iff.mpr c62
        subst c62
        have H1 : (some (t105, t112, x109002_42, t146, t147)) = some (r1, r2, r3, r4, r5) := by rw [if_neg (show ¬ (false = true) by decide)] at H; exact H
        clear H
        have H := H1
        clear H1
        simp only [Option.some.injEq, Prod.mk.injEq] at H
        obtain ⟨rfl, rfl, rfl, rfl, rfl⟩ := H
        have hnb76 := NB108_101.out
        have hnc76 := NB101_108.out
        have hnb77 := NB108_0.out
        have hnc77 := NB0_108.out
        obtain ⟨hcz78_0, hcz78_1, hcz78_2⟩ := cz3_ BK108.out
        obtain ⟨hfz78_0, hfz78_1, hfz78_2⟩ := fz3_ BK108.out
        have hnb79 := NB101_0.out
        have hnc79 := NB0_101.out
        obtain ⟨hcz80_0, hcz80_1, hcz80_2⟩ := cz3_ BK101.out
        obtain ⟨hfz80_0, hfz80_1, hfz80_2⟩ := fz3_ BK101.out
        go_wp2
        refine bodyPost_ret (results_cell_row rfl _ _ gb101 43 #[.string t105, .string t112, .string x109002_42] (0, 0) _ rfl (by exact kj3_2 (kj3_1 (kj3_0 (kz BK101.out)))) Tryd.underlying43 rfl (by kernel_rfl)) rfl ?_
        exact ⟨by first | rfl | (simp [*, aw_, av_] <;> rfl), by repeat (first | (with_reducible first | exact HI0.out | apply IsS81.alloc | apply IsS81.drewN | apply IsS81.drew | apply IsS81.set_1 | apply IsS81.set_2 | refine IsS81.far ?_ NB0_101.out _ | refine IsS81.far ?_ NB0_108.out _) | exact HI0.out), by repeat (first | (with_reducible first | exact HB.out | apply bA_ | apply bN_ | apply bD_ | refine ab_ ?_ (IsS81.ge HI0.out) | refine ab_ ?_ GE101.out | refine ab_ ?_ GE108.out) | exact HB.out), by repeat (first | (with_reducible first | exact HK.out | apply ac_.set_ | apply ad_ | apply af_ | apply ae_ | refine ag_ ?_ GW101.out _ | refine ag_ ?_ GW108.out _) | exact HK.out)⟩
       subst c62
       have H1 : ((aj_.f s0_0 t146 t147 3).bind fun bt148 => (if 0 ≤ (wrap64 (399 + bt148.1)) then (if (wrap64 (399 + bt148.1) : Int).toNat ≤ 281474976710656 then (some (t105, t112, strOfNums (List.replicate (wrap64 (399 + bt148.1) : Int).toNat 0), bt148.2.1, bt148.2.2)) else (none)) else (none))) = some (r1, r2, r3, r4, r5) := by rw [if_pos rfl] at H; exact H
       clear H
       have H := H1
       clear H1
       replace H := Option.bind_eq_some_iff.mp H
       obtain ⟨⟨t148, t149, t150⟩, A630, H⟩ := H
       (try dsimp only at H)
       have A63 := Aside0.mk A630
       clear A630
       obtain ⟨ji64, hji64⟩ : ∃ j_ : Int, (wrap64 (399 + t148)) = j_ := ⟨_, rfl⟩
       replace H : (if 0 ≤ (ji64) then (if (ji64 : Int).toNat ≤ 281474976710656 then (some (t105, t112, strOfNums (List.replicate (ji64 : Int).toNat 0), t149, t150)) else (none)) else (none)) = some (r1, r2, r3, r4, r5) := by first | (rw [hji64] at H; exact H) | (simp only [hji64] at H ⊢; exact H)
       (try rw [hji64] at A63)
       have hji64w : (IntKind.i64.wrap (399 + t148)) = ji64 := (i64_w _).trans hji64
       by_cases c65 : 0 ≤ (ji64)
       rotate_left
       ·rw [if_neg c65] at H
        exact absurd H (by simp)
       rw [if_pos c65] at H
       have c65b0 := eq_true c65
       have c65b1 : decide (0 ≤ (ji64)) = true := decide_eq_true c65
       clear c65
       by_cases c66 : (ji64 : Int).toNat ≤ 281474976710656
       rotate_left
       ·rw [if_neg c66] at H
        exact absurd H (by simp)
       rw [if_pos c66] at H
       have c66b0 := eq_true c66
       have c66b1 : decide ((ji64 : Int).toNat ≤ 281474976710656) = true := decide_eq_true c66
       clear c66
       obtain ⟨y151, hy151⟩ : ∃ y_ : List Int, y_ = (List.replicate (ji64 : Int).toNat 0) := ⟨_, rfl⟩
       replace H : (some (t105, t112, strOfNums y151, t149, t150)) = some (r1, r2, r3, r4, r5) := by first | (rw [hy151]; with_reducible exact H) | (have H2_ := (Option.bind_some _ _).symm.trans H; rw [hy151]; with_reducible exact H2_) | (have H2_ := (Option.bind_some _ _).symm.trans H; with_reducible exact H2_) | with_reducible exact H | (rw [hy151]; exact H) | exact H
       have Ny151 := Aside0.mk hy151
       clear hy151
       simp only [Option.some.injEq, Prod.mk.injEq] at H
       obtain ⟨rfl, rfl, rfl, rfl, rfl⟩ := H
       go_wp2_with (first | ((with_reducible refine al_ (f := 65) rfl ?_); refine bf_ (some 41) rfl rfl Tryd.func65 (by kernel_rfl) rfl #[.pointer (some ⟨g, 0, none⟩), .int .i64 3] rfl (by first | rfl | (simp only [lma_, lmc_, lmn_]; first | done | rfl)) ?_; (with_reducible refine (aj_.calls g s0_0 t146 t147 3 t148 t149 t150 w0 _ ?side1 ?side2 A63.out).mono ?_); (case side1 => repeat (first | (with_reducible first | exact HI0.out | apply IsS81.alloc | apply IsS81.drewN | apply IsS81.drew | apply IsS81.set_1 | apply IsS81.set_2 | refine IsS81.far ?_ NB0_101.out _ | refine IsS81.far ?_ NB0_108.out _) | exact HI0.out)); (case side2 => repeat (first | (with_reducible first | exact HB.out | apply bA_ | apply bN_ | apply bD_ | refine ab_ ?_ (IsS81.ge HI0.out) | refine ab_ ?_ GE101.out | refine ab_ ?_ GE108.out) | exact HB.out)); rintro e w67 ⟨rfl, hi, hb, hk⟩; refine ⟨_, rfl, ?_⟩; replace BK101 := Aside0.mk (ac_.blk hk (g' := gb101) (o := .cells #[.string (⟨#[]⟩ : ByteArray), .string (⟨#[]⟩ : ByteArray), .string (⟨#[]⟩ : ByteArray)] 43 (0, 0)) (kz BK101.out) NB101_0.out (by simp)); replace BK108 := Aside0.mk (ac_.blk hk (g' := gb108) (o := .cells #[.string t105, .string t112, .string x109002_42] 43 (0, 0)) (kz BK108.out) NB108_0.out (by simp)); replace HK := Aside0.mk (ac_.trans (by repeat (first | (with_reducible first | exact HK.out | apply ac_.set_ | apply ad_ | apply af_ | apply ae_ | refine ag_ ?_ GW101.out _ | refine ag_ ?_ GW108.out _) | exact HK.out)) hk (.inl rfl)); replace HB := Aside0.mk (hb); replace HI0 := Aside0.mk (hi); (try clear hb)) | ((with_reducible refine aS_ (N := 43) rfl ?_); refine Kd.R_make (Kd.int .u8) _ 5 rfl (N := 43) rfl 33 _ _ rfl ji64 rfl rfl Tryd.underlying33 (.int .u8 0) 1 info5 rfl (by decide) (by omega) 0 (ok := fun _ => True) (okp := fun _ => True) rfl (fun _ hk => hk) trivial (of_decide_eq_true (by assumption)) (Nat.le_trans (Nat.mul_le_mul_right _ (of_decide_eq_true (by assumption) : ji64.toNat ≤ 281474976710656)) (by omega)) (Below.refl _ _) (Nat.le_refl _) ?_; intro v152 w68 ho69 hb hg_ hnew_; clear hg_ hnew_; (first | rw [← Ny151.out] at ho69 | (simp only [Int.reduceToNat] at ho69; rw [← Ny151.out] at ho69)); have HO153 := Aside0.mk (Kd.bw_ ho69 (aZ_ (w := w) (g := g) (row := none) (by repeat (first | (with_reducible first | exact HK.out | apply ac_.set_ | apply ad_ | apply af_ | apply ae_ | refine ag_ ?_ GW101.out _ | refine ag_ ?_ GW108.out _) | exact HK.out)))); replace BK101 := Aside0.mk (az_ (kz BK101.out) hb); replace BK108 := Aside0.mk (az_ (kz BK108.out) hb); replace HK := Aside0.mk (ac_.trans (by repeat (first | (with_reducible first | exact HK.out | apply ac_.set_ | apply ad_ | apply af_ | apply ae_ | refine ag_ ?_ GW101.out _ | refine ag_ ?_ GW108.out _) | exact HK.out)) (ac_.of_below hb g none) (.inl rfl)); replace HB := Aside0.mk (ah_ (by repeat (first | (with_reducible first | exact HB.out | apply bA_ | apply bN_ | apply bD_ | refine ab_ ?_ (IsS81.ge HI0.out) | refine ab_ ?_ GE101.out | refine ab_ ?_ GE108.out) | exact HB.out)) hb); replace HI0 := Aside0.mk (IsS81.below (by repeat (first | (with_reducible first | exact HI0.out | apply IsS81.alloc | apply IsS81.drewN | apply IsS81.drew | apply IsS81.set_1 | apply IsS81.set_2 | refine IsS81.far ?_ NB0_101.out _ | refine IsS81.far ?_ NB0_108.out _) | exact HI0.out)) hb); clear hb ho69; have hcv70 := own_string (P := Tryd.prog) Tryd.underlying33 Tryd.underlying5 Tryd.underlying9 (Kd.own_of_R HO153.out); have hnb71 := NB108_101.out; have hnc71 := NB101_108.out; have hnb72 := NB108_0.out; have hnc72 := NB0_108.out; obtain ⟨hcz73_0, hcz73_1, hcz73_2⟩ := cz3_ BK108.out; obtain ⟨hfz73_0, hfz73_1, hfz73_2⟩ := fz3_ BK108.out; have hnb74 := NB101_0.out; have hnc74 := NB0_101.out; obtain ⟨hcz75_0, hcz75_1, hcz75_2⟩ := cz3_ BK101.out; obtain ⟨hfz75_0, hfz75_1, hfz75_2⟩ := fz3_ BK101.out))
       refine bodyPost_ret (results_cell_row rfl _ _ gb101 43 #[.string t105, .string t112, .string (strOfNums y151)] (0, 0) _ rfl (by exact kj3_2 (kj3_1 (kj3_0 (kf (kz BK101.out) NB101_108.out)))) Tryd.underlying43 rfl (by kernel_rfl)) rfl ?_
       exact ⟨by first | rfl | (simp [aw_, av_] <;> rfl) | (simp only [← hji64]; first | rfl | (simp [aw_, av_] <;> rfl)) | (simp [*, aw_, av_] <;> rfl), by repeat (first | (with_reducible first | exact HI0.out | apply IsS81.alloc | apply IsS81.drewN | apply IsS81.drew | apply IsS81.set_1 | apply IsS81.set_2 | refine IsS81.far ?_ NB0_101.out _ | refine IsS81.far ?_ NB0_108.out _) | exact HI0.out), by repeat (first | (with_reducible first | exact HB.out | apply bA_ | apply bN_ | apply bD_ | refine ab_ ?_ (IsS81.ge HI0.out) | refine ab_ ?_ GE101.out | refine ab_ ?_ GE108.out) | exact HB.out), by repeat (first | (with_reducible first | exact HK.out | apply ac_.set_ | apply ad_ | apply af_ | apply ae_ | refine ag_ ?_ GW101.out _ | refine ag_ ?_ GW108.out _) | exact HK.out)⟩
def bz_.l0 : Nat → List (S43) → Int → List Int → Int → Int → Option ((List (S43)) × Int × Int)
 | 0, _, _, _, _, _ => none
 | k + 1, x3, x4, x1000, x1001, x1002 => if x4 > 0 then ((ap_.f k x1000 x1001 x1002).bind fun bt107 => ((bo_.f k x3 bt107.1 bt107.2.1 bt107.2.2.1).bind fun bt112 => (if bt112.2 = 0 then (bz_.l0 k bt112.1 (wrap64 (x4 - 1)) x1000 bt107.2.2.2.1 bt107.2.2.2.2) else (bz_.l0 k x3 (wrap64 (x4 - 1)) x1000 bt107.2.2.2.1 bt107.2.2.2.2)))) else (some (x3, x1001, x1002))
def bz_.f (k : Nat) (s0_0 : List Int) (s0_1 : Int) (s0_2 : Int) : Option ((List (S43)) × Int × Int) := (aj_.f s0_0 s0_1 s0_2 6).bind fun bt104 => (bz_.l0 k (([] : List (S43))) bt104.1 s0_0 bt104.2.1 bt104.2.2)
set_option maxHeartbeats 8000000 in
set_option maxRecDepth 100000 in
theorem bz_.calls (k : Nat) (g : Nat) (s0_0 : List Int) (s0_1 : Int) (s0_2 : Int) (r1 : List (S43)) (r2 : Int) (r3 : Int) (w0 w : World) (hI : IsS81 w0 w g s0_0 s0_1 s0_2) (hB : Below w0.heap.size w0 w) (h : bz_.f k s0_0 s0_1 s0_2 = some (r1, r2, r3)) :
  Calls Tryd.prog 42 #[.pointer (some ⟨g, 0, none⟩)] w fun e w' => ∃ v0_ : Value, e = .returned (v0_) ∧ Kd.R k43 43 w' w.heap.size (fun _ => True) v0_ r1 ∧ IsS81 w0 w' g s0_0 r2 r3 ∧ Below w0.heap.size w0 w' ∧ ac_ w w' g none := by
 have HI0 := Aside0.mk hI
 have HK := Aside0.mk (ac_.refl w g none)
 have HL := Aside0.mk hB.size
 clear hI
 have HW0 := Aside0.mk hB.size
 have HB := Aside0.mk hB
 clear hB
 have H : ((aj_.f s0_0 s0_1 s0_2 6).bind fun bt104 => (bz_.l0 k (([] : List (S43))) bt104.1 s0_0 bt104.2.1 bt104.2.2)) = some (r1, r2, r3) := h
 clear h
 obtain ⟨y101, hy101⟩ : ∃ y_ : List (S43), y_ = (([] : List (S43))) := ⟨_, rfl⟩
 replace H : ((aj_.f s0_0 s0_1 s0_2 6).bind fun bt104 => (bz_.l0 k y101 bt104.1 s0_0 bt104.2.1 bt104.2.2)) = some (r1, r2, r3) := by first | (rw [hy101]; with_reducible exact H) | (have H2_ := (Option.bind_some _ _).symm.trans H; rw [hy101]; with_reducible exact H2_) | (have H2_ := (Option.bind_some _ _).symm.trans H; with_reducible exact H2_) | with_reducible exact H | (rw [hy101]; exact H) | exact H
 have Ny101 := Aside0.mk hy101
 clear hy101
 replace H := Option.bind_eq_some_iff.mp H
 obtain ⟨⟨t104, t105, t106⟩, A20, H⟩ := H
 (try dsimp only at H)
 have A2 := Aside0.mk A20
 clear A20
 have H' := Aside0.mk H
 clear H
 go_enter Tryd.func42, Tryd.ntmps42
 go_wp2_with (first | ((with_reducible refine aS_ (N := 7) rfl ?_); refine Kd.R_lit k43 _ 43 ?hg (N := 7) ?hd (xs := ([] : List (S43))) (inner := []) (ok := fun _ => True) (okp := fun _ => True) ?hr ?hp (fun _ hk => hk) trivial (Below.refl _ _) (Nat.le_refl _) (by simp) ?_; (case hd => rfl); (case hg => rfl); (case hr => (go_simp; try rfl)); (case hp => exact (Reps.none _ _)); intro v102 w3 ho4 hb hg_ hnew_; clear hg_ hnew_; (first | rw [← Ny101.out] at ho4 | (simp only [Int.reduceToNat] at ho4; rw [← Ny101.out] at ho4)); have HO103 := Aside0.mk (Kd.bw_ ho4 (aZ_ (w := w) (g := g) (row := none) (by repeat (first | (with_reducible first | exact HK.out | apply ac_.set_ | apply ad_ | apply af_ | apply ae_) | exact HK.out)))); replace HK := Aside0.mk (ac_.trans (by repeat (first | (with_reducible first | exact HK.out | apply ac_.set_ | apply ad_ | apply af_ | apply ae_) | exact HK.out)) (ac_.of_below hb g none) (.inl rfl)); replace HB := Aside0.mk (ah_ (by repeat (first | (with_reducible first | exact HB.out | apply bA_ | apply bN_ | apply bD_ | refine ab_ ?_ (IsS81.ge HI0.out)) | exact HB.out)) hb); replace HI0 := Aside0.mk (IsS81.below (by repeat (first | (with_reducible first | exact HI0.out | apply IsS81.alloc | apply IsS81.drewN | apply IsS81.drew | apply IsS81.set_1 | apply IsS81.set_2) | exact HI0.out)) hb); clear hb ho4) | ((with_reducible refine al_ (f := 65) rfl ?_); refine bf_ (some 9) rfl rfl Tryd.func65 (by kernel_rfl) rfl #[.pointer (some ⟨g, 0, none⟩), .int .i64 6] rfl (by first | rfl | (simp only [lma_, lmc_, lmn_]; first | done | rfl)) ?_; (with_reducible refine (aj_.calls g s0_0 s0_1 s0_2 6 t104 t105 t106 w0 _ ?side1 ?side2 A2.out).mono ?_); (case side1 => repeat (first | (with_reducible first | exact HI0.out | apply IsS81.alloc | apply IsS81.drewN | apply IsS81.drew | apply IsS81.set_1 | apply IsS81.set_2) | exact HI0.out)); (case side2 => repeat (first | (with_reducible first | exact HB.out | apply bA_ | apply bN_ | apply bD_ | refine ab_ ?_ (IsS81.ge HI0.out)) | exact HB.out)); rintro e w5 ⟨rfl, hi, hb, hk⟩; refine ⟨_, rfl, ?_⟩; replace HO103 := Aside0.mk (Kd.aG_ (Kd.cw_ (IsS81.apart (show IsS81 w0 _ g s0_0 s0_1 s0_2 from by repeat (first | (with_reducible first | exact HI0.out | apply IsS81.alloc | apply IsS81.drewN | apply IsS81.drew | apply IsS81.set_1 | apply IsS81.set_2) | exact HI0.out)) (rz HO103.out) (by decide)) hk (fun _ h => h.2)) (fun _ h => h.1)); replace HK := Aside0.mk (ac_.trans (by repeat (first | (with_reducible first | exact HK.out | apply ac_.set_ | apply ad_ | apply af_ | apply ae_) | exact HK.out)) hk (.inl rfl)); replace HB := Aside0.mk (hb); replace HI0 := Aside0.mk (hi); (try clear hb)))
 (try simp only [Act.put, lsa_, ls0_, ls1_])
 go_loopg [3, 4] k (fun kq v3 v4 w' => ∃ (x3_1 : List (S43)) (x4_1 : Int) (x1001_1 : Int) (x1002_1 : Int), v4 = .int .i64 x4_1 ∧ Aside0 (bz_.l0 kq x3_1 x4_1 s0_0 x1001_1 x1002_1 = some (r1, r2, r3)) ∧ Aside0 (kq ≤ k) ∧ Aside0 (Kd.R k43 43 w' w.heap.size (fun _ => True) v3 x3_1) ∧ Aside0 (IsS81 w0 w' g s0_0 x1001_1 x1002_1) ∧ Aside0 (ac_ w w' g none) ∧ Aside0 (Below w0.heap.size w0 w'))
 case atStart => exact ⟨(y101), (t104), (t105), (t106), (by first | rfl | (simp; done) | (simp [*]; done)), H', ⟨Nat.le_refl _⟩, ⟨rz HO103.out⟩, ⟨by repeat (first | (with_reducible first | exact HI0.out | apply IsS81.alloc | apply IsS81.drewN | apply IsS81.drew | apply IsS81.set_1 | apply IsS81.set_2) | exact HI0.out)⟩, ⟨by repeat (first | (with_reducible first | exact HK.out | apply ac_.set_ | apply ad_ | apply af_ | apply ae_) | exact HK.out)⟩, ⟨by repeat (first | (with_reducible first | exact HB.out | apply bA_ | apply bN_ | apply bD_ | refine ab_ ?_ (IsS81.ge HI0.out)) | exact HB.out)⟩⟩
 case round =>
  clear H'
  obtain ⟨x3_1, x4_1, x1001_1, x1002_1, rfl, HA, HK1, HO_3, HI0, HK, HB⟩ := hrel
  cases gk with
  | zero => exact absurd HA.out (by simp [bz_.l0])
  | succ k1 =>
   have H := HA.out
   clear HA
   simp only [bz_.l0] at H
   by_cases c6 : x4_1 > 0
   rotate_left
   ·rw [if_neg c6] at H
    have c6b0 : decide (0 < x4_1) = false := decide_eq_false c6
    clear c6
    simp only [Option.some.injEq, Prod.mk.injEq] at H
    obtain ⟨rfl, rfl, rfl⟩ := H
    go_wp2
    go_ret
    exact ⟨_, by first | rfl | (simp [*, aw_, av_] <;> rfl), rz HO_3.out, by repeat (first | (with_reducible first | exact HI0.out | apply IsS81.alloc | apply IsS81.drewN | apply IsS81.drew | apply IsS81.set_1 | apply IsS81.set_2) | exact HI0.out), by repeat (first | (with_reducible first | exact HB.out | apply bA_ | apply bN_ | apply bD_ | refine ab_ ?_ (IsS81.ge HI0.out)) | exact HB.out), by repeat (first | (with_reducible first | exact HK.out | apply ac_.set_ | apply ad_ | apply af_ | apply ae_) | exact HK.out)⟩
   rw [if_pos c6] at H
   have c6b0 : decide (0 < x4_1) = true := decide_eq_true c6
   clear c6
   replace H := Option.bind_eq_some_iff.mp H
   obtain ⟨⟨t107, t108, t109, t110, t111⟩, A70, H⟩ := H
   (try dsimp only at H)
   have A7 := Aside0.mk A70
   clear A70
   replace H := Option.bind_eq_some_iff.mp H
   obtain ⟨⟨t112, t115⟩, A80, H⟩ := H
   (try dsimp only at H)
   have A8 := Aside0.mk A80
   clear A80
   have HC9 := Aside0.mk H
   clear H
   go_upto_if 22 with (first | ((with_reducible refine al_ (f := 67) rfl ?_); refine bf_ (some 17) rfl rfl Tryd.func67 (by kernel_rfl) rfl #[.pointer (some ⟨g, 0, none⟩)] rfl (by first | rfl | (simp only [lma_, lmc_, lmn_]; first | done | rfl)) ?_; (with_reducible refine (ap_.calls k1 g s0_0 x1001_1 x1002_1 t107 t108 t109 t110 t111 w0 _ ?side1 ?side2 A7.out).mono ?_); (case side1 => repeat (first | (with_reducible first | exact HI0.out | apply IsS81.alloc | apply IsS81.drewN | apply IsS81.drew | apply IsS81.set_1 | apply IsS81.set_2) | exact HI0.out)); (case side2 => repeat (first | (with_reducible first | exact HB.out | apply bA_ | apply bN_ | apply bD_ | refine ab_ ?_ (IsS81.ge HI0.out)) | exact HB.out)); rintro e w10 ⟨rfl, hi, hb, hk⟩; refine ⟨_, rfl, ?_⟩; replace HO_3 := Aside0.mk (Kd.aG_ (Kd.cw_ (IsS81.apart (show IsS81 w0 _ g s0_0 x1001_1 x1002_1 from by repeat (first | (with_reducible first | exact HI0.out | apply IsS81.alloc | apply IsS81.drewN | apply IsS81.drew | apply IsS81.set_1 | apply IsS81.set_2) | exact HI0.out)) (rz HO_3.out) (by decide)) hk (fun _ h => h.2)) (fun _ h => h.1)); replace HK := Aside0.mk (ac_.trans (by repeat (first | (with_reducible first | exact HK.out | apply ac_.set_ | apply ad_ | apply af_ | apply ae_) | exact HK.out)) hk (.inl rfl)); replace HB := Aside0.mk (hb); replace HI0 := Aside0.mk (hi); (try clear hb); obtain ⟨Ao11, co11, eo11⟩ := Kd.bL_ HO_3.out; subst eo11) | ((with_reducible refine al_ (f := 66) rfl ?_); refine bf_ (some 18) rfl rfl Tryd.func66 (by kernel_rfl) rfl #[.slice Ao11 x3_1.length co11, .agg #[.string t107, .string t108, .string t109]] rfl (by first | rfl | (simp only [lma_, lmc_, lmn_]; first | done | rfl)) ?_; (with_reducible refine (bo_.calls k1 _ _ x3_1 t107 t108 t109 t112 t115 _ ?side1 ?side2 A8.out).mono ?_); (case side1 => exact cz (Kd.aE_ HO_3.out).2.2); (case side2 => exact (Kd.aE_ HO_3.out).2.1); rintro e w12 ⟨v113, rfl, ho0, hb⟩; refine ⟨_, rfl, ?_⟩; have HO114 := Aside0.mk (Kd.bw_ (Kd.bE_ ho0 (Kd.R_lt (rz HO_3.out))) (aZ_ (w := w) (g := g) (row := none) (by repeat (first | (with_reducible first | exact HK.out | apply ac_.set_ | apply ad_ | apply af_ | apply ae_) | exact HK.out)))); replace HO_3 := Aside0.mk (Kd.aW_ (rz HO_3.out) (Kd.bs_ ho0) hb); replace HK := Aside0.mk (ac_.trans (by repeat (first | (with_reducible first | exact HK.out | apply ac_.set_ | apply ad_ | apply af_ | apply ae_) | exact HK.out)) (ac_.of_below hb g none) (.inl rfl)); replace HB := Aside0.mk (ah_ (by repeat (first | (with_reducible first | exact HB.out | apply bA_ | apply bN_ | apply bD_ | refine ab_ ?_ (IsS81.ge HI0.out)) | exact HB.out)) hb); replace HI0 := Aside0.mk (IsS81.below (by repeat (first | (with_reducible first | exact HI0.out | apply IsS81.alloc | apply IsS81.drewN | apply IsS81.drew | apply IsS81.set_1 | apply IsS81.set_2) | exact HI0.out)) hb); (try clear hb); (try clear ho0)))
   (try simp only [Act.put, lsa_, ls0_, ls1_])
   have H := HC9.out
   clear HC9
   by_cases c13 : t115 = 0
   rotate_left
   ·rw [if_neg c13] at H
    have c13b0 : (t115 == 0) = false := beq_eq_false_iff_ne.mpr c13
    have c13b1 : (t115 != 0) = true := bne_iff_ne.mpr c13
    (first | rw [c13b0] | (simp only [i64_w, i32_w]; rw [c13b0]) | (simp only [c13b1, Bool.not_true, Bool.not_false]) | (simp only [c13b0, Bool.not_true, Bool.not_false]) | skip)
    have H' := Aside0.mk H
    clear H
    go_wp2
    go_roundg k1
    case measure => have := HK1.out; omega
    case rel => exact ⟨(x3_1), (wrap64 (x4_1 - 1)), (t110), (t111), (by first | rfl | (simp; done) | (simp [*]; done)), H', ⟨by have := HK1.out; omega⟩, ⟨rz (Kd.aG_ HO_3.out (fun _ hk => trivial))⟩, ⟨by repeat (first | (with_reducible first | exact HI0.out | apply IsS81.alloc | apply IsS81.drewN | apply IsS81.drew | apply IsS81.set_1 | apply IsS81.set_2) | exact HI0.out)⟩, ⟨by repeat (first | (with_reducible first | exact HK.out | apply ac_.set_ | apply ad_ | apply af_ | apply ae_) | exact HK.out)⟩, ⟨by repeat (first | (with_reducible first | exact HB.out | apply bA_ | apply bN_ | apply bD_ | refine ab_ ?_ (IsS81.ge HI0.out)) | exact HB.out)⟩⟩
   rw [if_pos c13] at H
   have c13b0 : (t115 == 0) = true := beq_iff_eq.mpr c13
   have c13b1 : (t115 != 0) = false := bne_eq_false_iff_eq.mpr c13
   clear c13
   (first | rw [c13b0] | (simp only [i64_w, i32_w]; rw [c13b0]) | (simp only [c13b1, Bool.not_true, Bool.not_false]) | (simp only [c13b0, Bool.not_true, Bool.not_false]) | skip)
   have H' := Aside0.mk H
   clear H
   go_wp2
   go_roundg k1
   case measure => have := HK1.out; omega
   case rel => exact ⟨(t112), (wrap64 (x4_1 - 1)), (t110), (t111), (by first | rfl | (simp; done) | (simp [*]; done)), H', ⟨by have := HK1.out; omega⟩, ⟨rz (Kd.aG_ HO114.out (fun _ hk => trivial))⟩, ⟨by repeat (first | (with_reducible first | exact HI0.out | apply IsS81.alloc | apply IsS81.drewN | apply IsS81.drew | apply IsS81.set_1 | apply IsS81.set_2) | exact HI0.out)⟩, ⟨by repeat (first | (with_reducible first | exact HK.out | apply ac_.set_ | apply ad_ | apply af_ | apply ae_) | exact HK.out)⟩, ⟨by repeat (first | (with_reducible first | exact HB.out | apply bA_ | apply bN_ | apply bD_ | refine ab_ ?_ (IsS81.ge HI0.out)) | exact HB.out)⟩⟩
def co_.f (k : Nat) (l0 : List Int) : Option ((List (S43))) := (da_.f l0).bind fun bt101 => ((bz_.f k bt101.1 bt101.2.1 bt101.2.2).bind fun bt105 => (some bt105.1))
set_option maxHeartbeats 8000000 in
set_option maxRecDepth 100000 in
theorem co_.calls (k : Nat) (A0 : Option Addr) (c0 : Nat) (l0 : List Int) (r : List (S43)) (w : World) (hr0 : Kd.C (Kd.int .u8) w A0 l0.length l0) (hc0 : l0.length ≤ c0) (h : co_.f k l0 = some r) :
  Calls Tryd.prog 20 #[.slice A0 l0.length c0] w fun e w' => ∃ v0_ : Value, e = .returned (v0_) ∧ Kd.R k43 43 w' w.heap.size (fun _ => True) v0_ r ∧ Below w.heap.size w w' := by
 have HR0 := Aside0.mk hr0
 have HC0 := Aside0.mk hc0
 clear hr0 hc0
 have HB := Aside0.mk (Below.refl w.heap.size w)
 have H : ((da_.f l0).bind fun bt101 => ((bz_.f k bt101.1 bt101.2.1 bt101.2.2).bind fun bt105 => (some bt105.1))) = some r := h
 clear h
 replace H := Option.bind_eq_some_iff.mp H
 obtain ⟨⟨t101, t102, t103⟩, A20, H⟩ := H
 (try dsimp only at H)
 have A2 := Aside0.mk A20
 clear A20
 replace H := Option.bind_eq_some_iff.mp H
 obtain ⟨⟨t105, t108, t109⟩, A30, H⟩ := H
 (try dsimp only at H)
 have A3 := Aside0.mk A30
 clear A30
 obtain rfl := Option.some.inj H
 go_enter Tryd.func20, Tryd.ntmps20
 go_wp2_with (first | ((with_reducible refine al_ (f := 41) rfl ?_); refine bf_ (some 5) rfl rfl Tryd.func41 (by kernel_rfl) rfl #[.slice A0 l0.length c0] rfl (by first | rfl | (simp only [lma_, lmc_, lmn_]; first | done | rfl)) ?_; (with_reducible refine (da_.calls _ _ l0 t101 t102 t103 w _ ?side1 ?side2 ?side3 A2.out).mono ?_); (case side1 => exact bz HB.out); (case side2 => exact HR0.out); (case side3 => exact HC0.out); rintro e w4 ⟨g104, rfl, hi, hb, hb2⟩; refine ⟨_, rfl, ?_⟩; replace HB := Aside0.mk (hb); have HI104 := Aside0.mk (hi); (try clear hb)) | ((with_reducible refine al_ (f := 42) rfl ?_); refine bf_ (some 7) rfl rfl Tryd.func42 (by kernel_rfl) rfl #[.pointer (some ⟨g104, 0, none⟩)] rfl (by first | rfl | (simp only [lma_, lmc_, lmn_]; first | done | rfl)) ?_; (with_reducible refine (bz_.calls k g104 t101 t102 t103 t105 t108 t109 w _ ?side1 ?side2 A3.out).mono ?_); (case side1 => repeat (first | (with_reducible first | exact HI104.out | apply IsS81.alloc | apply IsS81.drewN | apply IsS81.drew | apply IsS81.set_1 | apply IsS81.set_2) | exact HI104.out)); (case side2 => repeat (first | (with_reducible first | exact HB.out | apply bA_ | apply bN_ | apply bD_ | refine ab_ ?_ (IsS81.ge HI104.out)) | exact HB.out)); rintro e w5 ⟨v106, rfl, ho0, hi, hb, hk⟩; refine ⟨_, rfl, ?_⟩; have HO107 := Aside0.mk (Kd.bw_ ho0 (ak_ (by repeat (first | (with_reducible first | exact HB.out | apply bA_ | apply bN_ | apply bD_ | refine ab_ ?_ (IsS81.ge HI104.out)) | exact HB.out)))); replace HB := Aside0.mk (hb); replace HI104 := Aside0.mk (hi); (try clear hb); (try clear ho0)))
 go_ret
 exact ⟨_, by first | rfl | (simp [*, aw_, av_] <;> rfl), rz HO107.out, by repeat (first | (with_reducible first | exact HB.out | apply bA_ | apply bN_ | apply bD_ | refine ab_ ?_ (IsS81.ge HI104.out)) | exact HB.out)⟩
def bm_.l0 : Nat → ByteArray → Option (ByteArray)
 | 0, _ => none
 | k + 1, x3 => if (x3.size : Int) < 5 then (if 1 + x3.size ≤ 9223372036854775807 then (bm_.l0 k ((⟨#[48]⟩ : ByteArray) ++ x3)) else (none)) else (some x3)
def bm_.f (k : Nat) (a0 : Int) : Option (ByteArray) := (au_.f k a0).bind fun t101 => (bm_.l0 k t101)
set_option maxHeartbeats 8000000 in
set_option maxRecDepth 100000 in
theorem bm_.calls (k : Nat) (a0 : Int) (r : ByteArray) (w : World) (h : bm_.f k a0 = some r) :
  Calls Tryd.prog 47 #[.int .i64 a0] w fun e w' => e = .returned (.string r) ∧ Below w.heap.size w w' := by
 have HB := Aside0.mk (Below.refl w.heap.size w)
 have H : ((au_.f k a0).bind fun t101 => (bm_.l0 k t101)) = some r := h
 clear h
 replace H := Option.bind_eq_some_iff.mp H
 obtain ⟨t101, A20, H⟩ := H
 (try dsimp only at H)
 have A2 := Aside0.mk A20
 clear A20
 have H' := Aside0.mk H
 clear H
 go_enter Tryd.func47, Tryd.ntmps47
 go_wp2_with (first | ((with_reducible refine al_ (f := 68) rfl ?_); refine bf_ (some 5) rfl rfl Tryd.func68 (by kernel_rfl) rfl #[.int .i64 a0] rfl (by first | rfl | (simp only [lma_, lmc_, lmn_]; first | done | rfl)) ?_; (with_reducible refine (au_.calls k a0 t101 _ A2.out).mono ?_); rintro e w3 ⟨rfl, hb⟩; refine ⟨_, rfl, ?_⟩; replace HB := Aside0.mk (ah_ (bz HB.out) hb); (try clear hb)))
 (try simp only [Act.put, lsa_, ls0_, ls1_])
 go_loopg [3] k (fun kq v3 w' => ∃ (x3_1 : ByteArray), v3 = .string x3_1 ∧ Aside0 (bm_.l0 kq x3_1 = some r) ∧ Aside0 (kq ≤ k) ∧ Aside0 (Below w.heap.size w w'))
 case atStart => exact ⟨(t101), (by first | rfl | (simp; done) | (simp [*]; done)), H', ⟨Nat.le_refl _⟩, ⟨bz HB.out⟩⟩
 case round =>
  clear H'
  obtain ⟨x3_1, rfl, HA, HK1, HB⟩ := hrel
  cases gk with
  | zero => exact absurd HA.out (by simp [bm_.l0])
  | succ k1 =>
   have H := HA.out
   clear HA
   simp only [bm_.l0] at H
   by_cases c4 : (x3_1.size : Int) < 5
   rotate_left
   ·rw [if_neg c4] at H
    have c4b0 : decide ((x3_1.size : Int) < 5) = false := decide_eq_false c4
    have c4b1 : decide (x3_1.size < 5) = false := decide_eq_false (by omega)
    clear c4
    obtain rfl := Option.some.inj H
    go_wp2
    go_ret
    exact ⟨by first | rfl | (simp [*, aw_, av_] <;> rfl), bz HB.out⟩
   rw [if_pos c4] at H
   have c4b0 : decide ((x3_1.size : Int) < 5) = true := decide_eq_true c4
   have c4b1 : decide (x3_1.size < 5) = true := decide_eq_true (by omega)
   clear c4
   by_cases c5 : 1 + x3_1.size ≤ 9223372036854775807
   rotate_left
   ·rw [if_neg c5] at H
    exact absurd H (by simp)
   rw [if_pos c5] at H
   have c5b0 := eq_true c5
   have c5b1 : decide (1 + x3_1.size ≤ 9223372036854775807) = true := decide_eq_true c5
   try have c5b2 : (9223372036854775807 < 1 + x3_1.size) = False := eq_false (Nat.not_lt.2 c5)
   have H' := Aside0.mk H
   clear H
   go_wp2
   go_roundg k1
   case measure => have := HK1.out; omega
   case rel => exact ⟨((⟨#[48]⟩ : ByteArray) ++ x3_1), (by first | rfl | (simp; done) | (simp [*]; done)), H', ⟨by have := HK1.out; omega⟩, ⟨bz HB.out⟩⟩
mutual
def aF_.l0 : Nat → ByteArray → Int → Int → Option (Int)
 | 0, _, _, _ => none
 | k + 1, x0, x1, x5 => if x5 < (x0.size : Int) then (if 0 ≤ x5 then (aF_.l1 k x0 (Go.bits .xor .i64 x1 (wrap64 ((wrap64 (bt x0 x5)) * 256))) x5 0) else (none)) else (some x1)
def aF_.l1 : Nat → ByteArray → Int → Int → Int → Option (Int)
 | 0, _, _, _, _ => none
 | k + 1, x0, x1, x5, x6 => if x6 < 8 then (if (wrap64 (x1 * 2)) > 65535 then (aF_.l1 k x0 (Go.bits .xor .i64 (Go.bits .and .i64 (wrap64 (x1 * 2)) 65535) 4129) x5 (wrap64 (x6 + 1))) else (aF_.l1 k x0 (wrap64 (x1 * 2)) x5 (wrap64 (x6 + 1)))) else (aF_.l0 k x0 x1 (wrap64 (x5 + 1)))
end
def aF_.f (k : Nat) (a0 : ByteArray) (a1 : Int) : Option (Int) := aF_.l0 k a0 a1 0
set_option maxHeartbeats 8000000 in
set_option maxRecDepth 100000 in
theorem aF_.calls (k : Nat) (a0 : ByteArray) (a1 : Int) (r : Int) (w : World) (h : aF_.f k a0 a1 = some r) :
  Calls Tryd.prog 48 #[.string a0, .int .i64 a1] w fun e w' => e = .returned (.int .i64 r) ∧ an_ w w' := by
 have H : (aF_.l0 k a0 a1 0) = some r := h
 clear h
 have H' := Aside0.mk H
 clear H
 go_enter Tryd.func48, Tryd.ntmps48
 go_wp2
 (try simp only [Act.put, lsa_, ls0_, ls1_])
 go_loopg [1, 5] k (fun kq v1 v5 w' => ∃ (x1_1 : Int) (x5_1 : Int), v1 = .int .i64 x1_1 ∧ v5 = .int .i64 x5_1 ∧ Aside0 (aF_.l0 kq a0 x1_1 x5_1 = some r) ∧ Aside0 (kq ≤ k) ∧ an_ w w')
 case atStart => exact ⟨(a1), (0), (by first | rfl | (simp; done) | (simp [*]; done)), (by first | rfl | (simp; done) | (simp [*]; done)), H', ⟨Nat.le_refl _⟩, by repeat (first | exact an_.refl _ | apply an_.step)⟩
 case round =>
  clear H'
  obtain ⟨x1_1, x5_1, rfl, rfl, HA, HK1, ⟨m1, rfl⟩⟩ := hrel
  cases gk with
  | zero => exact absurd HA.out (by simp [aF_.l0])
  | succ k1 =>
   have H := HA.out
   clear HA
   simp only [aF_.l0] at H
   by_cases c3 : x5_1 < (a0.size : Int)
   rotate_left
   ·rw [if_neg c3] at H
    have c3b0 : decide (x5_1 < (a0.size : Int)) = false := decide_eq_false c3
    clear c3
    obtain rfl := Option.some.inj H
    go_wp2
    go_ret
    exact ⟨by first | rfl | (simp; done) | (simp [*]; done), by repeat (first | exact an_.refl _ | apply an_.step)⟩
   rw [if_pos c3] at H
   have c3b0 : decide (x5_1 < (a0.size : Int)) = true := decide_eq_true c3
   clear c3
   by_cases c4 : 0 ≤ x5_1
   rotate_left
   ·rw [if_neg c4] at H
    exact absurd H (by simp)
   rw [if_pos c4] at H
   have c4b0 : decide (0 ≤ x5_1) = true := decide_eq_true c4
   clear c4
   have H' := Aside0.mk H
   clear H
   have p5 : 0 ≤ (x5_1 : Int) := of_decide_eq_true (by assumption)
   have q5 : x5_1 < (a0.size : Int) := of_decide_eq_true (by assumption)
   have hx5 := bt_at a0 x5_1
   replace p5 := eq_true p5
   replace q5 := eq_true q5
   go_wp2
   (try simp only [Act.put, lsa_, ls0_, ls1_])
   go_loopg [1, 6] k1 (fun kq v1 v6 w' => ∃ (x1_2 : Int) (x6_2 : Int), v1 = .int .i64 x1_2 ∧ v6 = .int .i64 x6_2 ∧ Aside0 (aF_.l1 kq a0 x1_2 x5_1 x6_2 = some r) ∧ Aside0 (kq ≤ k1) ∧ an_ w w')
   case atStart => exact ⟨(Go.bits .xor .i64 x1_1 (wrap64 ((wrap64 (bt a0 x5_1)) * 256))), (0), (by first | rfl | (simp; done) | (simp [*]; done)), (by first | rfl | (simp; done) | (simp [*]; done)), H', ⟨Nat.le_refl _⟩, by repeat (first | exact an_.refl _ | apply an_.step)⟩
   case round =>
    clear H'
    obtain ⟨x1_2, x6_2, rfl, rfl, HA, HK2, ⟨m2, rfl⟩⟩ := hrel
    cases gk with
    | zero => exact absurd HA.out (by simp [aF_.l1])
    | succ k2 =>
     have H := HA.out
     clear HA
     simp only [aF_.l1] at H
     by_cases c6 : x6_2 < 8
     rotate_left
     ·rw [if_neg c6] at H
      have c6b0 : decide (x6_2 < 8) = false := decide_eq_false c6
      clear c6
      have H' := Aside0.mk H
      clear H
      go_wp2
      go_roundg k2
      case measure => have := HK1.out; have := HK2.out; omega
      case rel => exact ⟨(x1_2), (wrap64 (x5_1 + 1)), (by first | rfl | (simp; done) | (simp [*]; done)), (by first | rfl | (simp; done) | (simp [*]; done)), H', ⟨by have := HK1.out; have := HK2.out; omega⟩, by repeat (first | exact an_.refl _ | apply an_.step)⟩
     rw [if_pos c6] at H
     have c6b0 : decide (x6_2 < 8) = true := decide_eq_true c6
     clear c6
     by_cases c7 : (wrap64 (x1_2 * 2)) > 65535
     rotate_left
     ·rw [if_neg c7] at H
      have c7b0 : decide (65535 < (wrap64 (x1_2 * 2))) = false := decide_eq_false c7
      clear c7
      have H' := Aside0.mk H
      clear H
      go_wp2
      go_roundg k2
      case measure => have := HK1.out; have := HK2.out; omega
      case rel => exact ⟨(wrap64 (x1_2 * 2)), (wrap64 (x6_2 + 1)), (by first | rfl | (simp; done) | (simp [*]; done)), (by first | rfl | (simp; done) | (simp [*]; done)), H', ⟨by have := HK1.out; have := HK2.out; omega⟩, by repeat (first | exact an_.refl _ | apply an_.step)⟩
     rw [if_pos c7] at H
     have c7b0 : decide (65535 < (wrap64 (x1_2 * 2))) = true := decide_eq_true c7
     clear c7
     have H' := Aside0.mk H
     clear H
     go_wp2
     go_roundg k2
     case measure => have := HK1.out; have := HK2.out; omega
     case rel => exact ⟨(Go.bits .xor .i64 (Go.bits .and .i64 (wrap64 (x1_2 * 2)) 65535) 4129), (wrap64 (x6_2 + 1)), (by first | rfl | (simp; done) | (simp [*]; done)), (by first | rfl | (simp; done) | (simp [*]; done)), H', ⟨by have := HK1.out; have := HK2.out; omega⟩, by repeat (first | exact an_.refl _ | apply an_.step)⟩
def cP_.f (k : Nat) (l0 : List (S43)) : Option (ByteArray) := if 0 < (l0.length : Int) then (if ((aa_ l0 0).f0).size + 1 ≤ 9223372036854775807 then (if ((aa_ l0 0).f0).size + 1 + ((aa_ l0 0).f1).size ≤ 9223372036854775807 then (if ((aa_ l0 0).f0).size + 1 + ((aa_ l0 0).f1).size + 1 ≤ 9223372036854775807 then (if ((aa_ l0 0).f0).size + 1 + ((aa_ l0 0).f1).size + 1 + ((aa_ l0 0).f2).size ≤ 9223372036854775807 then ((aF_.f k ((((((aa_ l0 0).f0) ++ (⟨#[32]⟩ : ByteArray)) ++ ((aa_ l0 0).f1)) ++ (⟨#[32]⟩ : ByteArray)) ++ ((aa_ l0 0).f2)) 65535).bind fun t104 => ((bm_.f k t104).bind fun t105 => (if t105.size + 1 ≤ 9223372036854775807 then (if t105.size + 1 + (((aa_ l0 0).f0).size + 1 + ((aa_ l0 0).f1).size + 1 + ((aa_ l0 0).f2).size) ≤ 9223372036854775807 then (if t105.size + 1 + (((aa_ l0 0).f0).size + 1 + ((aa_ l0 0).f1).size + 1 + ((aa_ l0 0).f2).size) + 1 ≤ 9223372036854775807 then (some (((t105 ++ (⟨#[32]⟩ : ByteArray)) ++ ((((((aa_ l0 0).f0) ++ (⟨#[32]⟩ : ByteArray)) ++ ((aa_ l0 0).f1)) ++ (⟨#[32]⟩ : ByteArray)) ++ ((aa_ l0 0).f2))) ++ (⟨#[10]⟩ : ByteArray))) else (none)) else (none)) else (none)))) else (none)) else (none)) else (none)) else (none)) else (none)
set_option maxHeartbeats 8000000 in
set_option maxRecDepth 100000 in
theorem cP_.calls (k : Nat) (A0 : Option Addr) (l0 : List (S43)) (r : ByteArray) (w : World) (hr0 : Kd.C k43 w A0 l0.length l0) (h : cP_.f k l0 = some r) :
  Calls Tryd.prog 69 #[.pointer A0] w fun e w' => e = .returned (.string r) ∧ Below w.heap.size w w' := by
 have HR0 := Aside0.mk hr0
 clear hr0
 have HB := Aside0.mk (Below.refl w.heap.size w)
 have H : (if 0 < (l0.length : Int) then (if ((aa_ l0 0).f0).size + 1 ≤ 9223372036854775807 then (if ((aa_ l0 0).f0).size + 1 + ((aa_ l0 0).f1).size ≤ 9223372036854775807 then (if ((aa_ l0 0).f0).size + 1 + ((aa_ l0 0).f1).size + 1 ≤ 9223372036854775807 then (if ((aa_ l0 0).f0).size + 1 + ((aa_ l0 0).f1).size + 1 + ((aa_ l0 0).f2).size ≤ 9223372036854775807 then ((aF_.f k ((((((aa_ l0 0).f0) ++ (⟨#[32]⟩ : ByteArray)) ++ ((aa_ l0 0).f1)) ++ (⟨#[32]⟩ : ByteArray)) ++ ((aa_ l0 0).f2)) 65535).bind fun t104 => ((bm_.f k t104).bind fun t105 => (if t105.size + 1 ≤ 9223372036854775807 then (if t105.size + 1 + (((aa_ l0 0).f0).size + 1 + ((aa_ l0 0).f1).size + 1 + ((aa_ l0 0).f2).size) ≤ 9223372036854775807 then (if t105.size + 1 + (((aa_ l0 0).f0).size + 1 + ((aa_ l0 0).f1).size + 1 + ((aa_ l0 0).f2).size) + 1 ≤ 9223372036854775807 then (some (((t105 ++ (⟨#[32]⟩ : ByteArray)) ++ ((((((aa_ l0 0).f0) ++ (⟨#[32]⟩ : ByteArray)) ++ ((aa_ l0 0).f1)) ++ (⟨#[32]⟩ : ByteArray)) ++ ((aa_ l0 0).f2))) ++ (⟨#[10]⟩ : ByteArray))) else (none)) else (none)) else (none)))) else (none)) else (none)) else (none)) else (none)) else (none)) = some r := h
 clear h
 by_cases c2 : 0 < (l0.length : Int)
 rotate_left
 ·rw [if_neg c2] at H
  exact absurd H (by simp)
 rw [if_pos c2] at H
 have c2b0 : decide (0 < (l0.length : Int)) = true := decide_eq_true c2
 have c2b1 : decide (0 < l0.length) = true := decide_eq_true (by omega)
 clear c2
 by_cases c3 : ((aa_ l0 0).f0).size + 1 ≤ 9223372036854775807
 rotate_left
 ·rw [if_neg c3] at H
  exact absurd H (by simp)
 rw [if_pos c3] at H
 have c3b0 := eq_true c3
 have c3b1 : decide (((aa_ l0 0).f0).size + 1 ≤ 9223372036854775807) = true := decide_eq_true c3
 try have c3b2 : (9223372036854775807 < ((aa_ l0 0).f0).size + 1) = False := eq_false (Nat.not_lt.2 c3)
 by_cases c4 : ((aa_ l0 0).f0).size + 1 + ((aa_ l0 0).f1).size ≤ 9223372036854775807
 rotate_left
 ·rw [if_neg c4] at H
  exact absurd H (by simp)
 rw [if_pos c4] at H
 have c4b0 := eq_true c4
 have c4b1 : decide (((aa_ l0 0).f0).size + 1 + ((aa_ l0 0).f1).size ≤ 9223372036854775807) = true := decide_eq_true c4
 try have c4b2 : (9223372036854775807 < ((aa_ l0 0).f0).size + 1 + ((aa_ l0 0).f1).size) = False := eq_false (Nat.not_lt.2 c4)
 by_cases c5 : ((aa_ l0 0).f0).size + 1 + ((aa_ l0 0).f1).size + 1 ≤ 9223372036854775807
 rotate_left
 ·rw [if_neg c5] at H
  exact absurd H (by simp)
 rw [if_pos c5] at H
 have c5b0 := eq_true c5
 have c5b1 : decide (((aa_ l0 0).f0).size + 1 + ((aa_ l0 0).f1).size + 1 ≤ 9223372036854775807) = true := decide_eq_true c5
 try have c5b2 : (9223372036854775807 < ((aa_ l0 0).f0).size + 1 + ((aa_ l0 0).f1).size + 1) = False := eq_false (Nat.not_lt.2 c5)
 by_cases c6 : ((aa_ l0 0).f0).size + 1 + ((aa_ l0 0).f1).size + 1 + ((aa_ l0 0).f2).size ≤ 9223372036854775807
 rotate_left
 ·rw [if_neg c6] at H
  exact absurd H (by simp)
 rw [if_pos c6] at H
 have c6b0 := eq_true c6
 have c6b1 : decide (((aa_ l0 0).f0).size + 1 + ((aa_ l0 0).f1).size + 1 + ((aa_ l0 0).f2).size ≤ 9223372036854775807) = true := decide_eq_true c6
 try have c6b2 : (9223372036854775807 < ((aa_ l0 0).f0).size + 1 + ((aa_ l0 0).f1).size + 1 + ((aa_ l0 0).f2).size) = False := eq_false (Nat.not_lt.2 c6)
 replace H := Option.bind_eq_some_iff.mp H
 obtain ⟨t104, A70, H⟩ := H
 (try dsimp only at H)
 have A7 := Aside0.mk A70
 clear A70
 replace H := Option.bind_eq_some_iff.mp H
 obtain ⟨t105, A80, H⟩ := H
 (try dsimp only at H)
 have A8 := Aside0.mk A80
 clear A80
 by_cases c9 : t105.size + 1 ≤ 9223372036854775807
 rotate_left
 ·rw [if_neg c9] at H
  exact absurd H (by simp)
 rw [if_pos c9] at H
 have c9b0 := eq_true c9
 have c9b1 : decide (t105.size + 1 ≤ 9223372036854775807) = true := decide_eq_true c9
 try have c9b2 : (9223372036854775807 < t105.size + 1) = False := eq_false (Nat.not_lt.2 c9)
 by_cases c10 : t105.size + 1 + (((aa_ l0 0).f0).size + 1 + ((aa_ l0 0).f1).size + 1 + ((aa_ l0 0).f2).size) ≤ 9223372036854775807
 rotate_left
 ·rw [if_neg c10] at H
  exact absurd H (by simp)
 rw [if_pos c10] at H
 have c10b0 := eq_true c10
 have c10b1 : decide (t105.size + 1 + (((aa_ l0 0).f0).size + 1 + ((aa_ l0 0).f1).size + 1 + ((aa_ l0 0).f2).size) ≤ 9223372036854775807) = true := decide_eq_true c10
 try have c10b2 : (9223372036854775807 < t105.size + 1 + (((aa_ l0 0).f0).size + 1 + ((aa_ l0 0).f1).size + 1 + ((aa_ l0 0).f2).size)) = False := eq_false (Nat.not_lt.2 c10)
 by_cases c11 : t105.size + 1 + (((aa_ l0 0).f0).size + 1 + ((aa_ l0 0).f1).size + 1 + ((aa_ l0 0).f2).size) + 1 ≤ 9223372036854775807
 rotate_left
 ·rw [if_neg c11] at H
  exact absurd H (by simp)
 rw [if_pos c11] at H
 have c11b0 := eq_true c11
 have c11b1 : decide (t105.size + 1 + (((aa_ l0 0).f0).size + 1 + ((aa_ l0 0).f1).size + 1 + ((aa_ l0 0).f2).size) + 1 ≤ 9223372036854775807) = true := decide_eq_true c11
 try have c11b2 : (9223372036854775807 < t105.size + 1 + (((aa_ l0 0).f0).size + 1 + ((aa_ l0 0).f1).size + 1 + ((aa_ l0 0).f2).size) + 1) = False := eq_false (Nat.not_lt.2 c11)
 obtain rfl := Option.some.inj H
 have p101 : 0 ≤ (0 : Int) := (by omega)
 have q101 : 0 < (l0.length : Int) := of_decide_eq_true (by assumption)
 obtain ⟨ad101, e101, hx101_0, hx101_1, hx101_2⟩ := br_ HR0.out 0 p101 q101
 cases e101
 have qi101 : (0 < l0.length) = True := eq_true (by omega)
 (try simp only [Int.toNat_zero, Nat.zero_mul, Addr.add_zero'] at hx101_0 hx101_1 hx101_2)
 replace p101 := eq_true p101
 replace q101 := eq_true q101
 have p102 : 0 ≤ (0 : Int) := (by omega)
 have q102 : 0 < (l0.length : Int) := of_decide_eq_true (by assumption)
 obtain ⟨ad102, e102, hx102_0, hx102_1, hx102_2⟩ := br_ HR0.out 0 p102 q102
 obtain rfl : ad101 = ad102 := (by injection e102)
 have qi102 : (0 < l0.length) = True := eq_true (by omega)
 (try simp only [Int.toNat_zero, Nat.zero_mul, Addr.add_zero'] at hx102_0 hx102_1 hx102_2)
 replace p102 := eq_true p102
 replace q102 := eq_true q102
 have p103 : 0 ≤ (0 : Int) := (by omega)
 have q103 : 0 < (l0.length : Int) := of_decide_eq_true (by assumption)
 obtain ⟨ad103, e103, hx103_0, hx103_1, hx103_2⟩ := br_ HR0.out 0 p103 q103
 obtain rfl : ad101 = ad103 := (by injection e103)
 have qi103 : (0 < l0.length) = True := eq_true (by omega)
 (try simp only [Int.toNat_zero, Nat.zero_mul, Addr.add_zero'] at hx103_0 hx103_1 hx103_2)
 replace p103 := eq_true p103
 replace q103 := eq_true q103
 go_enter Tryd.func69, Tryd.ntmps69
 go_wp2_with (first | (go_at_call 48; (with_reducible refine (aF_.calls k ((((((aa_ l0 0).f0) ++ (⟨#[32]⟩ : ByteArray)) ++ ((aa_ l0 0).f1)) ++ (⟨#[32]⟩ : ByteArray)) ++ ((aa_ l0 0).f2)) 65535 t104 _ A7.out).mono ?_); rintro e w' ⟨rfl, ⟨nd, rfl⟩⟩; (try first | exact ⟨rfl, _, World.drewN_drewN _ _ _⟩ | exact ⟨rfl, _, Eq.trans (World.drewN_drewN _ _ _) (congrArg (World.drewN _) (Nat.add_assoc _ _ _))⟩)) | (go_at_call 47; (with_reducible refine (bm_.calls k t104 t105 _ A8.out).mono ?_); rintro e w12 ⟨rfl, hb⟩; replace HB := Aside0.mk (ah_ (bz HB.out) hb); (try clear hb)))
 repeat (go_quiet (first | (go_at_call 48; (with_reducible refine (aF_.calls k ((((((aa_ l0 0).f0) ++ (⟨#[32]⟩ : ByteArray)) ++ ((aa_ l0 0).f1)) ++ (⟨#[32]⟩ : ByteArray)) ++ ((aa_ l0 0).f2)) 65535 t104 _ A7.out).mono ?_); rintro e w' ⟨rfl, ⟨nd, rfl⟩⟩; (try first | exact ⟨rfl, _, World.drewN_drewN _ _ _⟩ | exact ⟨rfl, _, Eq.trans (World.drewN_drewN _ _ _) (congrArg (World.drewN _) (Nat.add_assoc _ _ _))⟩)) | (go_at_call 47; (with_reducible refine (bm_.calls k t104 t105 _ A8.out).mono ?_); rintro e w12 ⟨rfl, hb⟩; replace HB := Aside0.mk (ah_ (bz HB.out) hb); (try clear hb))); try go_wp2_with (first | (go_at_call 48; (with_reducible refine (aF_.calls k ((((((aa_ l0 0).f0) ++ (⟨#[32]⟩ : ByteArray)) ++ ((aa_ l0 0).f1)) ++ (⟨#[32]⟩ : ByteArray)) ++ ((aa_ l0 0).f2)) 65535 t104 _ A7.out).mono ?_); rintro e w' ⟨rfl, ⟨nd, rfl⟩⟩; (try first | exact ⟨rfl, _, World.drewN_drewN _ _ _⟩ | exact ⟨rfl, _, Eq.trans (World.drewN_drewN _ _ _) (congrArg (World.drewN _) (Nat.add_assoc _ _ _))⟩)) | (go_at_call 47; (with_reducible refine (bm_.calls k t104 t105 _ A8.out).mono ?_); rintro e w12 ⟨rfl, hb⟩; replace HB := Aside0.mk (ah_ (bz HB.out) hb); (try clear hb))))
 go_ret
 exact ⟨by first | rfl | (simp [*, aw_, av_] <;> rfl), bz HB.out⟩
def bG_.l0 : Nat → List (S43) → ByteArray → Int → Option (ByteArray)
 | 0, _, _, _ => none
 | k + 1, x0, x3, x4 => if x4 < (x0.length : Int) then (if 0 ≤ x4 then ((cP_.f k [aa_ x0 x4]).bind fun t103 => (if x3.size + t103.size ≤ 9223372036854775807 then (bG_.l0 k x0 (x3 ++ t103) (wrap64 (x4 + 1))) else (none))) else (none)) else (some x3)
def bG_.f (k : Nat) (l0 : List (S43)) : Option (ByteArray) := (au_.f k (l0.length : Int)).bind fun t101 => (if 8 + t101.size ≤ 9223372036854775807 then (if 8 + t101.size + 1 ≤ 9223372036854775807 then (bG_.l0 k l0 (((⟨#[97, 114, 99, 104, 105, 118, 101, 32]⟩ : ByteArray) ++ t101) ++ (⟨#[10]⟩ : ByteArray)) 0) else (none)) else (none))
set_option maxHeartbeats 8000000 in
set_option maxRecDepth 100000 in
theorem bG_.calls (k : Nat) (A0 : Option Addr) (c0 : Nat) (l0 : List (S43)) (r : ByteArray) (w : World) (hr0 : Kd.C k43 w A0 l0.length l0) (hc0 : l0.length ≤ c0) (h : bG_.f k l0 = some r) :
  Calls Tryd.prog 44 #[.slice A0 l0.length c0] w fun e w' => e = .returned (.string r) ∧ Below w.heap.size w w' := by
 have HR0 := Aside0.mk hr0
 have HC0 := Aside0.mk hc0
 clear hr0 hc0
 have HB := Aside0.mk (Below.refl w.heap.size w)
 have H : ((au_.f k (l0.length : Int)).bind fun t101 => (if 8 + t101.size ≤ 9223372036854775807 then (if 8 + t101.size + 1 ≤ 9223372036854775807 then (bG_.l0 k l0 (((⟨#[97, 114, 99, 104, 105, 118, 101, 32]⟩ : ByteArray) ++ t101) ++ (⟨#[10]⟩ : ByteArray)) 0) else (none)) else (none))) = some r := h
 clear h
 replace H := Option.bind_eq_some_iff.mp H
 obtain ⟨t101, A20, H⟩ := H
 (try dsimp only at H)
 have A2 := Aside0.mk A20
 clear A20
 by_cases c3 : 8 + t101.size ≤ 9223372036854775807
 rotate_left
 ·rw [if_neg c3] at H
  exact absurd H (by simp)
 rw [if_pos c3] at H
 have c3b0 := eq_true c3
 have c3b1 : decide (8 + t101.size ≤ 9223372036854775807) = true := decide_eq_true c3
 try have c3b2 : (9223372036854775807 < 8 + t101.size) = False := eq_false (Nat.not_lt.2 c3)
 by_cases c4 : 8 + t101.size + 1 ≤ 9223372036854775807
 rotate_left
 ·rw [if_neg c4] at H
  exact absurd H (by simp)
 rw [if_pos c4] at H
 have c4b0 := eq_true c4
 have c4b1 : decide (8 + t101.size + 1 ≤ 9223372036854775807) = true := decide_eq_true c4
 try have c4b2 : (9223372036854775807 < 8 + t101.size + 1) = False := eq_false (Nat.not_lt.2 c4)
 have H' := Aside0.mk H
 clear H
 go_enter Tryd.func44, Tryd.ntmps44
 go_wp2_with (first | ((with_reducible refine al_ (f := 68) rfl ?_); refine bf_ (some 7) rfl rfl Tryd.func68 (by kernel_rfl) rfl #[.int .i64 (l0.length : Int)] rfl (by first | rfl | (simp only [lma_, lmc_, lmn_]; first | done | rfl)) ?_; (with_reducible refine (au_.calls k (l0.length : Int) t101 _ A2.out).mono ?_); rintro e w5 ⟨rfl, hb⟩; refine ⟨_, rfl, ?_⟩; replace HB := Aside0.mk (ah_ (bz HB.out) hb); (try clear hb)))
 (try simp only [Act.put, lsa_, ls0_, ls1_])
 go_loopg [3, 4] k (fun kq v3 v4 w' => ∃ (x3_1 : ByteArray) (x4_1 : Int), v3 = .string x3_1 ∧ v4 = .int .i64 x4_1 ∧ Aside0 (bG_.l0 kq l0 x3_1 x4_1 = some r) ∧ Aside0 (kq ≤ k) ∧ Aside0 (Below w.heap.size w w'))
 case atStart => exact ⟨(((⟨#[97, 114, 99, 104, 105, 118, 101, 32]⟩ : ByteArray) ++ t101) ++ (⟨#[10]⟩ : ByteArray)), (0), (by first | rfl | (simp; done) | (simp [*]; done)), (by first | rfl | (simp; done) | (simp [*]; done)), H', ⟨Nat.le_refl _⟩, ⟨bz HB.out⟩⟩
 case round =>
  clear H'
  obtain ⟨x3_1, x4_1, rfl, rfl, HA, HK1, HB⟩ := hrel
  cases gk with
  | zero => exact absurd HA.out (by simp [bG_.l0])
  | succ k1 =>
   have H := HA.out
   clear HA
   simp only [bG_.l0] at H
   by_cases c6 : x4_1 < (l0.length : Int)
   rotate_left
   ·rw [if_neg c6] at H
    have c6b0 : decide (x4_1 < (l0.length : Int)) = false := decide_eq_false c6
    clear c6
    obtain rfl := Option.some.inj H
    go_wp2
    go_ret
    exact ⟨by first | rfl | (simp [*, aw_, av_] <;> rfl), bz HB.out⟩
   rw [if_pos c6] at H
   have c6b0 : decide (x4_1 < (l0.length : Int)) = true := decide_eq_true c6
   clear c6
   by_cases c7 : 0 ≤ x4_1
   rotate_left
   ·rw [if_neg c7] at H
    exact absurd H (by simp)
   rw [if_pos c7] at H
   have c7b0 : decide (0 ≤ x4_1) = true := decide_eq_true c7
   clear c7
   replace H := Option.bind_eq_some_iff.mp H
   obtain ⟨t103, A80, H⟩ := H
   (try dsimp only at H)
   have A8 := Aside0.mk A80
   clear A80
   by_cases c9 : x3_1.size + t103.size ≤ 9223372036854775807
   rotate_left
   ·rw [if_neg c9] at H
    exact absurd H (by simp)
   rw [if_pos c9] at H
   have c9b0 := eq_true c9
   have c9b1 : decide (x3_1.size + t103.size ≤ 9223372036854775807) = true := decide_eq_true c9
   try have c9b2 : (9223372036854775807 < x3_1.size + t103.size) = False := eq_false (Nat.not_lt.2 c9)
   have H' := Aside0.mk H
   clear H
   have p102 : 0 ≤ (x4_1 : Int) := of_decide_eq_true (by assumption)
   have q102 : x4_1 < (l0.length : Int) := of_decide_eq_true (by assumption)
   obtain ⟨ad102, e102, hx102_0, hx102_1, hx102_2⟩ := br_ HR0.out x4_1 p102 q102
   cases e102
   replace hx102_0 := bu_ HB.out hx102_0
   replace hx102_1 := bu_ HB.out hx102_1
   replace hx102_2 := bu_ HB.out hx102_2
   replace p102 := eq_true p102
   replace q102 := eq_true q102
   go_wp2_with (first | ((with_reducible refine al_ (f := 69) rfl ?_); refine bf_ (some 20) rfl rfl Tryd.func69 (by kernel_rfl) rfl #[.pointer (some ((ad102.add ((x4_1 : Int).toNat * 3)).add 0))] rfl (by first | rfl | (simp only [lma_, lmc_, lmn_]; first | done | rfl)) ?_; (with_reducible refine (cP_.calls k1 _ [aa_ l0 x4_1] t103 _ ?side1 A8.out).mono ?_); (case side1 => exact (RPW.cT_ (ad := ad102) (n := l0.length) (xs := l0) z43 (i := x4_1) (by first | exact of_eq_true p102 | exact p102 | omega) (by first | exact of_eq_true q102 | exact q102 | omega) (by first | exact (Kd.bW_ HR0.out HB.out) | exact cz (Kd.bW_ HR0.out HB.out)))); rintro e w10 ⟨rfl, hb⟩; refine ⟨_, rfl, ?_⟩; replace HB := Aside0.mk (ah_ (bz HB.out) hb); (try clear hb)))
   go_roundg k1
   case measure => have := HK1.out; omega
   case rel => exact ⟨(x3_1 ++ t103), (wrap64 (x4_1 + 1)), (by first | rfl | (simp; done) | (simp [*]; done)), (by first | rfl | (simp; done) | (simp [*]; done)), H', ⟨by have := HK1.out; omega⟩, ⟨bz HB.out⟩⟩
def cb_.f (k : Nat) (l0 : List (S43)) : Option (ByteArray × Int) := (aJ_.f k l0).bind fun t101 => (if t101 = true then ((bG_.f k l0).bind fun t102 => (some (t102, 0))) else (some ((⟨#[]⟩ : ByteArray), 1)))
set_option maxHeartbeats 8000000 in
set_option maxRecDepth 100000 in
theorem cb_.calls (k : Nat) (A0 : Option Addr) (c0 : Nat) (l0 : List (S43)) (r1 : ByteArray) (r2 : Int) (w : World) (hr0 : Kd.C k43 w A0 l0.length l0) (hc0 : l0.length ≤ c0) (h : cb_.f k l0 = some (r1, r2)) :
  Calls Tryd.prog 21 #[.slice A0 l0.length c0] w fun e w' => e = .returned (.tuple #[.string r1, .int .i64 r2]) ∧ Below w.heap.size w w' := by
 have HR0 := Aside0.mk hr0
 have HC0 := Aside0.mk hc0
 clear hr0 hc0
 have HB := Aside0.mk (Below.refl w.heap.size w)
 have H : ((aJ_.f k l0).bind fun t101 => (if t101 = true then ((bG_.f k l0).bind fun t102 => (some (t102, 0))) else (some ((⟨#[]⟩ : ByteArray), 1)))) = some (r1, r2) := h
 clear h
 replace H := Option.bind_eq_some_iff.mp H
 obtain ⟨t101, A20, H⟩ := H
 (try dsimp only at H)
 have A2 := Aside0.mk A20
 clear A20
 have HC3 := Aside0.mk H
 clear H
 go_enter Tryd.func21, Tryd.ntmps21
 go_upto_if 6 with (first | ((with_reducible refine al_ (f := 43) rfl ?_); refine bf_ (some 5) rfl rfl Tryd.func43 (by kernel_rfl) rfl #[.slice A0 l0.length c0] rfl (by first | rfl | (simp only [lma_, lmc_, lmn_]; first | done | rfl)) ?_; (with_reducible refine (aJ_.calls k _ _ l0 t101 _ ?side1 ?side2 A2.out).mono ?_); (case side1 => exact cz HR0.out); (case side2 => exact HC0.out); rintro e w' ⟨rfl, ⟨nd, rfl⟩⟩; refine ⟨_, rfl, ?_⟩))
 (try simp only [Act.put, lsa_, ls0_, ls1_])
 have H := HC3.out
 clear HC3
 by_cases c4 : t101 = true
 rotate_left
 ·replace c4 := Bool.eq_false_iff.mpr c4
  subst c4
  have H1 : (some ((⟨#[]⟩ : ByteArray), 1)) = some (r1, r2) := by rw [if_neg (show ¬ (false = true) by decide)] at H; exact H
  clear H
  have H := H1
  clear H1
  simp only [Option.some.injEq, Prod.mk.injEq] at H
  obtain ⟨rfl, rfl⟩ := H
  go_wp2
  go_ret2
  exact ⟨by first | rfl | (simp [*, aw_, av_] <;> rfl), bz HB.out⟩
 subst c4
 have H1 : ((bG_.f k l0).bind fun t102 => (some (t102, 0))) = some (r1, r2) := by rw [if_pos rfl] at H; exact H
 clear H
 have H := H1
 clear H1
 replace H := Option.bind_eq_some_iff.mp H
 obtain ⟨t102, A50, H⟩ := H
 (try dsimp only at H)
 have A5 := Aside0.mk A50
 clear A50
 simp only [Option.some.injEq, Prod.mk.injEq] at H
 obtain ⟨rfl, rfl⟩ := H
 go_wp2_with (first | ((with_reducible refine al_ (f := 44) rfl ?_); refine bf_ (some 8) rfl rfl Tryd.func44 (by kernel_rfl) rfl #[.slice A0 l0.length c0] rfl (by first | rfl | (simp only [lma_, lmc_, lmn_]; first | done | rfl)) ?_; (with_reducible refine (bG_.calls k _ _ l0 t102 _ ?side1 ?side2 A5.out).mono ?_); (case side1 => exact cz (Kd.bW_ HR0.out HB.out)); (case side2 => exact HC0.out); rintro e w6 ⟨rfl, hb⟩; refine ⟨_, rfl, ?_⟩; replace HB := Aside0.mk (ah_ (bz HB.out) hb); (try clear hb)))
 go_ret2
 exact ⟨by first | rfl | (simp [*, aw_, av_] <;> rfl), bz HB.out⟩
def cg_.f (l0 : List Int) (a1 : Int) (a2 : Int) : Option (Int) := if a2 ≤ 1 then (some 0) else (if a1 ≥ (l0.length : Int) then (some 0) else (if 0 ≤ a1 then (if a1 < (l0.length : Int) then (if a2 = 0 then (none) else (some (Int.tmod (wrap64 (rd l0 a1)) a2))) else (none)) else (none)))
set_option maxHeartbeats 8000000 in
set_option maxRecDepth 100000 in
theorem cg_.calls (A0 : Option Addr) (c0 : Nat) (l0 : List Int) (a1 : Int) (a2 : Int) (r : Int) (w : World) (hr0 : Kd.C (Kd.int .u8) w A0 l0.length l0) (hc0 : l0.length ≤ c0) (h : cg_.f l0 a1 a2 = some r) :
  Calls Tryd.prog 23 #[.slice A0 l0.length c0, .int .i64 a1, .int .i64 a2] w fun e w' => e = .returned (.int .i64 r) ∧ an_ w w' := by
 have HR0 := Aside0.mk hr0
 have HC0 := Aside0.mk hc0
 clear hr0 hc0
 have H : (if a2 ≤ 1 then (some 0) else (if a1 ≥ (l0.length : Int) then (some 0) else (if 0 ≤ a1 then (if a1 < (l0.length : Int) then (if a2 = 0 then (none) else (some (Int.tmod (wrap64 (rd l0 a1)) a2))) else (none)) else (none)))) = some r := h
 clear h
 by_cases c4 : a2 ≤ 1
 rotate_left
 ·rw [if_neg c4] at H
  have c4b0 : decide (a2 ≤ 1) = false := decide_eq_false c4
  clear c4
  by_cases c5 : a1 ≥ (l0.length : Int)
  rotate_left
  ·rw [if_neg c5] at H
   have c5b0 : decide ((l0.length : Int) ≤ a1) = false := decide_eq_false c5
   clear c5
   by_cases c6 : 0 ≤ a1
   rotate_left
   ·rw [if_neg c6] at H
    exact absurd H (by simp)
   rw [if_pos c6] at H
   have c6b0 : decide (0 ≤ a1) = true := decide_eq_true c6
   clear c6
   by_cases c7 : a1 < (l0.length : Int)
   rotate_left
   ·rw [if_neg c7] at H
    exact absurd H (by simp)
   rw [if_pos c7] at H
   have c7b0 : decide (a1 < (l0.length : Int)) = true := decide_eq_true c7
   clear c7
   by_cases c8 : a2 = 0
   rotate_left
   ·rw [if_neg c8] at H
    have c8b0 : (a2 == 0) = false := beq_eq_false_iff_ne.mpr c8
    have c8b1 : (a2 != 0) = true := bne_iff_ne.mpr c8
    obtain rfl := Option.some.inj H
    have p101 : 0 ≤ (a1 : Int) := of_decide_eq_true (by assumption)
    have q101 : a1 < (l0.length : Int) := of_decide_eq_true (by assumption)
    obtain ⟨ad101, e101, hx101_0⟩ := Kd.at_int HR0.out a1 p101 q101
    cases e101
    replace p101 := eq_true p101
    replace q101 := eq_true q101
    go_enter Tryd.func23, Tryd.ntmps23
    go_wp2
    go_ret
    exact ⟨by first | rfl | (simp; done) | (simp [*]; done), by repeat (first | exact an_.refl _ | apply an_.step)⟩
   rw [if_pos c8] at H
   exact absurd H (by simp)
  rw [if_pos c5] at H
  have c5b0 : decide ((l0.length : Int) ≤ a1) = true := decide_eq_true c5
  clear c5
  obtain rfl := Option.some.inj H
  go_enter Tryd.func23, Tryd.ntmps23
  go_wp2
  go_ret
  exact ⟨by first | rfl | (simp; done) | (simp [*]; done), by repeat (first | exact an_.refl _ | apply an_.step)⟩
 rw [if_pos c4] at H
 have c4b0 : decide (a2 ≤ 1) = true := decide_eq_true c4
 clear c4
 obtain rfl := Option.some.inj H
 go_enter Tryd.func23, Tryd.ntmps23
 go_wp2
 go_ret
 exact ⟨by first | rfl | (simp; done) | (simp [*]; done), by repeat (first | exact an_.refl _ | apply an_.step)⟩
def cx_.f (l0 : List Int) (a1 : Int) (a2 : Int) : Option (Int) := (cg_.f l0 a1 256).bind fun t101 => ((cg_.f l0 (wrap64 (a1 + 1)) 256).bind fun t102 => (if a2 = 0 then (none) else (some (Int.tmod (wrap64 ((wrap64 (256 * t101)) + t102)) a2))))
set_option maxHeartbeats 8000000 in
set_option maxRecDepth 100000 in
theorem cx_.calls (A0 : Option Addr) (c0 : Nat) (l0 : List Int) (a1 : Int) (a2 : Int) (r : Int) (w : World) (hr0 : Kd.C (Kd.int .u8) w A0 l0.length l0) (hc0 : l0.length ≤ c0) (h : cx_.f l0 a1 a2 = some r) :
  Calls Tryd.prog 22 #[.slice A0 l0.length c0, .int .i64 a1, .int .i64 a2] w fun e w' => e = .returned (.int .i64 r) ∧ an_ w w' := by
 have HR0 := Aside0.mk hr0
 have HC0 := Aside0.mk hc0
 clear hr0 hc0
 have H : ((cg_.f l0 a1 256).bind fun t101 => ((cg_.f l0 (wrap64 (a1 + 1)) 256).bind fun t102 => (if a2 = 0 then (none) else (some (Int.tmod (wrap64 ((wrap64 (256 * t101)) + t102)) a2))))) = some r := h
 clear h
 replace H := Option.bind_eq_some_iff.mp H
 obtain ⟨t101, A40, H⟩ := H
 (try dsimp only at H)
 have A4 := Aside0.mk A40
 clear A40
 replace H := Option.bind_eq_some_iff.mp H
 obtain ⟨t102, A50, H⟩ := H
 (try dsimp only at H)
 have A5 := Aside0.mk A50
 clear A50
 by_cases c6 : a2 = 0
 rotate_left
 ·rw [if_neg c6] at H
  have c6b0 : (a2 == 0) = false := beq_eq_false_iff_ne.mpr c6
  have c6b1 : (a2 != 0) = true := bne_iff_ne.mpr c6
  obtain rfl := Option.some.inj H
  go_enter Tryd.func22, Tryd.ntmps22
  go_wp2_with (first | ((with_reducible refine al_ (f := 23) rfl ?_); refine bf_ (some 9) rfl rfl Tryd.func23 (by kernel_rfl) rfl #[.slice A0 l0.length c0, .int .i64 a1, .int .i64 256] rfl (by first | rfl | (simp only [lma_, lmc_, lmn_]; first | done | rfl)) ?_; (with_reducible refine (cg_.calls _ _ l0 a1 256 t101 _ ?side1 ?side2 A4.out).mono ?_); (case side1 => exact cz HR0.out); (case side2 => exact HC0.out); rintro e w' ⟨rfl, ⟨nd, rfl⟩⟩; refine ⟨_, rfl, ?_⟩) | ((with_reducible refine al_ (f := 23) rfl ?_); refine bf_ (some 14) rfl rfl Tryd.func23 (by kernel_rfl) rfl #[.slice A0 l0.length c0, .int .i64 (wrap64 (a1 + 1)), .int .i64 256] rfl (by first | rfl | (simp only [lma_, lmc_, lmn_]; first | done | rfl)) ?_; (with_reducible refine (cg_.calls _ _ l0 (wrap64 (a1 + 1)) 256 t102 _ ?side1 ?side2 A5.out).mono ?_); (case side1 => exact cz HR0.out); (case side2 => exact HC0.out); rintro e w' ⟨rfl, ⟨nd, rfl⟩⟩; refine ⟨_, rfl, ?_⟩))
  go_ret
  exact ⟨by first | rfl | (simp; done) | (simp [*]; done), by repeat (first | exact an_.refl _ | apply an_.step)⟩
 rw [if_pos c6] at H
 exact absurd H (by simp)
def bO_.l0 : Nat → List Int → List Int → Int → Option (Bool)
 | 0, _, _, _ => none
 | k + 1, x0, x1, x5 => if x5 < (x0.length : Int) then (if 0 ≤ x5 then (if x5 < (x1.length : Int) then (if (rd x0 x5) = (rd x1 x5) then (bO_.l0 k x0 x1 (wrap64 (x5 + 1))) else (some false)) else (none)) else (none)) else (some true)
def bO_.f (k : Nat) (l0 : List Int) (l1 : List Int) : Option (Bool) := if (l0.length : Int) = (l1.length : Int) then (bO_.l0 k l0 l1 0) else (some false)
set_option maxHeartbeats 8000000 in
set_option maxRecDepth 100000 in
theorem bO_.calls (k : Nat) (A0 : Option Addr) (c0 : Nat) (l0 : List Int) (A1 : Option Addr) (c1 : Nat) (l1 : List Int) (r : Bool) (w : World) (hr0 : Kd.C (Kd.int .i64) w A0 l0.length l0) (hc0 : l0.length ≤ c0) (hr1 : Kd.C (Kd.int .i64) w A1 l1.length l1) (hc1 : l1.length ≤ c1) (h : bO_.f k l0 l1 = some r) :
  Calls Tryd.prog 24 #[.slice A0 l0.length c0, .slice A1 l1.length c1] w fun e w' => e = .returned (.bool r) ∧ an_ w w' := by
 have HR0 := Aside0.mk hr0
 have HC0 := Aside0.mk hc0
 clear hr0 hc0
 have HR1 := Aside0.mk hr1
 have HC1 := Aside0.mk hc1
 clear hr1 hc1
 have H : (if (l0.length : Int) = (l1.length : Int) then (bO_.l0 k l0 l1 0) else (some false)) = some r := h
 clear h
 by_cases c3 : (l0.length : Int) = (l1.length : Int)
 rotate_left
 ·rw [if_neg c3] at H
  have c3b0 : ((l0.length : Int) == (l1.length : Int)) = false := beq_eq_false_iff_ne.mpr c3
  have c3b1 : ((l0.length : Int) != (l1.length : Int)) = true := bne_iff_ne.mpr c3
  have c3b2 : (l0.length == l1.length) = false := by first | simpa using c3 | (simp at c3 ⊢; omega)
  obtain rfl := Option.some.inj H
  go_enter Tryd.func24, Tryd.ntmps24
  go_wp2
  repeat (go_quiet (fail); try go_wp2)
  go_ret
  exact ⟨by first | rfl | (simp; done) | (simp [*]; done), by repeat (first | exact an_.refl _ | apply an_.step)⟩
 rw [if_pos c3] at H
 have c3b0 : ((l0.length : Int) == (l1.length : Int)) = true := beq_iff_eq.mpr c3
 have c3b1 : ((l0.length : Int) != (l1.length : Int)) = false := bne_eq_false_iff_eq.mpr c3
 have c3b2 : (l0.length == l1.length) = true := by first | simpa using c3 | (simp at c3 ⊢; omega)
 clear c3
 have H' := Aside0.mk H
 clear H
 go_enter Tryd.func24, Tryd.ntmps24
 go_wp2
 repeat (go_quiet (fail); try go_wp2)
 (try simp only [Act.put, lsa_, ls0_, ls1_])
 go_loopg [5] k (fun kq v5 w' => ∃ (x5_1 : Int), v5 = .int .i64 x5_1 ∧ Aside0 (bO_.l0 kq l0 l1 x5_1 = some r) ∧ Aside0 (kq ≤ k) ∧ an_ w w')
 case atStart => exact ⟨(0), (by first | rfl | (simp; done) | (simp [*]; done)), H', ⟨Nat.le_refl _⟩, by repeat (first | exact an_.refl _ | apply an_.step)⟩
 case round =>
  clear H'
  obtain ⟨x5_1, rfl, HA, HK1, ⟨m1, rfl⟩⟩ := hrel
  cases gk with
  | zero => exact absurd HA.out (by simp [bO_.l0])
  | succ k1 =>
   have H := HA.out
   clear HA
   simp only [bO_.l0] at H
   by_cases c4 : x5_1 < (l0.length : Int)
   rotate_left
   ·rw [if_neg c4] at H
    have c4b0 : decide (x5_1 < (l0.length : Int)) = false := decide_eq_false c4
    clear c4
    obtain rfl := Option.some.inj H
    go_wp2
    repeat (go_quiet (fail); try go_wp2)
    go_ret
    exact ⟨by first | rfl | (simp; done) | (simp [*]; done), by repeat (first | exact an_.refl _ | apply an_.step)⟩
   rw [if_pos c4] at H
   have c4b0 : decide (x5_1 < (l0.length : Int)) = true := decide_eq_true c4
   clear c4
   by_cases c5 : 0 ≤ x5_1
   rotate_left
   ·rw [if_neg c5] at H
    exact absurd H (by simp)
   rw [if_pos c5] at H
   have c5b0 : decide (0 ≤ x5_1) = true := decide_eq_true c5
   clear c5
   by_cases c6 : x5_1 < (l1.length : Int)
   rotate_left
   ·rw [if_neg c6] at H
    exact absurd H (by simp)
   rw [if_pos c6] at H
   have c6b0 : decide (x5_1 < (l1.length : Int)) = true := decide_eq_true c6
   clear c6
   by_cases c7 : (rd l0 x5_1) = (rd l1 x5_1)
   rotate_left
   ·rw [if_neg c7] at H
    have c7b0 : ((rd l0 x5_1) == (rd l1 x5_1)) = false := beq_eq_false_iff_ne.mpr c7
    have c7b1 : ((rd l0 x5_1) != (rd l1 x5_1)) = true := bne_iff_ne.mpr c7
    obtain rfl := Option.some.inj H
    have p101 : 0 ≤ (x5_1 : Int) := of_decide_eq_true (by assumption)
    have q101 : x5_1 < (l0.length : Int) := of_decide_eq_true (by assumption)
    obtain ⟨ad101, e101, hx101_0⟩ := Kd.at_int HR0.out x5_1 p101 q101
    cases e101
    replace p101 := eq_true p101
    replace q101 := eq_true q101
    have p102 : 0 ≤ (x5_1 : Int) := of_decide_eq_true (by assumption)
    have q102 : x5_1 < (l1.length : Int) := of_decide_eq_true (by assumption)
    obtain ⟨ad102, e102, hx102_0⟩ := Kd.at_int HR1.out x5_1 p102 q102
    cases e102
    replace p102 := eq_true p102
    replace q102 := eq_true q102
    go_wp2
    repeat (go_quiet (fail); try go_wp2)
    go_ret
    exact ⟨by first | rfl | (simp; done) | (simp [*]; done), by repeat (first | exact an_.refl _ | apply an_.step)⟩
   rw [if_pos c7] at H
   have c7b0 : ((rd l0 x5_1) == (rd l1 x5_1)) = true := beq_iff_eq.mpr c7
   have c7b1 : ((rd l0 x5_1) != (rd l1 x5_1)) = false := bne_eq_false_iff_eq.mpr c7
   clear c7
   have H' := Aside0.mk H
   clear H
   have p101 : 0 ≤ (x5_1 : Int) := of_decide_eq_true (by assumption)
   have q101 : x5_1 < (l0.length : Int) := of_decide_eq_true (by assumption)
   obtain ⟨ad101, e101, hx101_0⟩ := Kd.at_int HR0.out x5_1 p101 q101
   cases e101
   replace p101 := eq_true p101
   replace q101 := eq_true q101
   have p102 : 0 ≤ (x5_1 : Int) := of_decide_eq_true (by assumption)
   have q102 : x5_1 < (l1.length : Int) := of_decide_eq_true (by assumption)
   obtain ⟨ad102, e102, hx102_0⟩ := Kd.at_int HR1.out x5_1 p102 q102
   cases e102
   replace p102 := eq_true p102
   replace q102 := eq_true q102
   go_wp2
   repeat (go_quiet (fail); try go_wp2)
   go_roundg k1
   case measure => have := HK1.out; omega
   case rel => exact ⟨(wrap64 (x5_1 + 1)), (by first | rfl | (simp; done) | (simp [*]; done)), H', ⟨by have := HK1.out; omega⟩, by repeat (first | exact an_.refl _ | apply an_.step)⟩
theorem eqA43 (d : Nat) (w : World) (x0 y0 : ByteArray) (x1 y1 : ByteArray) (x2 y2 : ByteArray) :
  (Op.equalIn (d + 2) 43 (.agg #[.string x0, .string x1, .string x2]) (.agg #[.string y0, .string y1, .string y2])).run Tryd.prog w = .ok (x0.toList == y0.toList && (x1.toList == y1.toList && (x2.toList == y2.toList))) w := by
 refine eqA_of Tryd.underlying43 (by kernel_rfl) ?_
 refine eqf_cons (by rfl) (by go_simp; rfl) (by go_simp; rfl) (by go_simp) ?_
 refine eqf_cons (by rfl) (by go_simp; rfl) (by go_simp; rfl) (by go_simp) ?_
 exact eqf_last (by rfl) (by go_simp; rfl) (by go_simp; rfl) (by go_simp)
end Go.Proofs.YtjebkmfljcanlaaDoor.Q
namespace Go.Proofs.YtjebkmfljcanlaaDoor.Q
open Go.RowKit Go.Proofs.YtjebkmfljcanlaaDoorW.PrintWords Go.Proofs.YtjebkmfljcanlaaDoorW.PrintLast Go.Proofs.YtjebkmfljcanlaaDoorW.PrintMore
attribute [local go_sem] aM_ aN_ be_ bc_ aC_ aD_ aL_ aK_
attribute [local go_sem high] eqA43
def bK_.l0 : Nat → List (S43) → List (S43) → Int → Option (Bool)
 | 0, _, _, _ => none
 | k + 1, x0, x1, x5 => if x5 < (x0.length : Int) then (if 0 ≤ x5 then (if x5 < (x1.length : Int) then (if (!((((aa_ x0 x5).f0).toList) == (((aa_ x1 x5).f0).toList)) || (!((((aa_ x0 x5).f1).toList) == (((aa_ x1 x5).f1).toList)) || (!((((aa_ x0 x5).f2).toList) == (((aa_ x1 x5).f2).toList))))) = true then (some false) else (bK_.l0 k x0 x1 (wrap64 (x5 + 1)))) else (none)) else (none)) else (some true)
def bK_.f (k : Nat) (l0 : List (S43)) (l1 : List (S43)) : Option (Bool) := if (l0.length : Int) = (l1.length : Int) then (bK_.l0 k l0 l1 0) else (some false)
set_option maxHeartbeats 8000000 in
set_option maxRecDepth 100000 in
theorem bK_.calls (k : Nat) (A0 : Option Addr) (c0 : Nat) (l0 : List (S43)) (A1 : Option Addr) (c1 : Nat) (l1 : List (S43)) (r : Bool) (w : World) (hr0 : Kd.C k43 w A0 l0.length l0) (hc0 : l0.length ≤ c0) (hr1 : Kd.C k43 w A1 l1.length l1) (hc1 : l1.length ≤ c1) (h : bK_.f k l0 l1 = some r) :
  Calls Tryd.prog 45 #[.slice A0 l0.length c0, .slice A1 l1.length c1] w fun e w' => e = .returned (.bool r) ∧ an_ w w' := by
 have hu43 := Tryd.underlying43
 have HR0 := Aside0.mk hr0
 have HC0 := Aside0.mk hc0
 clear hr0 hc0
 have HR1 := Aside0.mk hr1
 have HC1 := Aside0.mk hc1
 clear hr1 hc1
 have H : (if (l0.length : Int) = (l1.length : Int) then (bK_.l0 k l0 l1 0) else (some false)) = some r := h
 clear h
 by_cases c3 : (l0.length : Int) = (l1.length : Int)
 rotate_left
 ·rw [if_neg c3] at H
  have c3b0 : ((l0.length : Int) == (l1.length : Int)) = false := beq_eq_false_iff_ne.mpr c3
  have c3b1 : ((l0.length : Int) != (l1.length : Int)) = true := bne_iff_ne.mpr c3
  have c3b2 : (l0.length == l1.length) = false := by first | simpa using c3 | (simp at c3 ⊢; omega)
  obtain rfl := Option.some.inj H
  go_enter Tryd.func45, Tryd.ntmps45
  go_wp2
  repeat (go_quiet (fail); try go_wp2)
  go_ret
  exact ⟨by first | rfl | (simp; done) | (simp [*]; done), by repeat (first | exact an_.refl _ | apply an_.step)⟩
 rw [if_pos c3] at H
 have c3b0 : ((l0.length : Int) == (l1.length : Int)) = true := beq_iff_eq.mpr c3
 have c3b1 : ((l0.length : Int) != (l1.length : Int)) = false := bne_eq_false_iff_eq.mpr c3
 have c3b2 : (l0.length == l1.length) = true := by first | simpa using c3 | (simp at c3 ⊢; omega)
 clear c3
 have H' := Aside0.mk H
 clear H
 go_enter Tryd.func45, Tryd.ntmps45
 go_wp2
 repeat (go_quiet (fail); try go_wp2)
 (try simp only [Act.put, lsa_, ls0_, ls1_])
 go_loopg [5] k (fun kq v5 w' => ∃ (x5_1 : Int), v5 = .int .i64 x5_1 ∧ Aside0 (bK_.l0 kq l0 l1 x5_1 = some r) ∧ Aside0 (kq ≤ k) ∧ an_ w w')
 case atStart => exact ⟨(0), (by first | rfl | (simp; done) | (simp [*]; done)), H', ⟨Nat.le_refl _⟩, by repeat (first | exact an_.refl _ | apply an_.step)⟩
 case round =>
  clear H'
  obtain ⟨x5_1, rfl, HA, HK1, ⟨m1, rfl⟩⟩ := hrel
  cases gk with
  | zero => exact absurd HA.out (by simp [bK_.l0])
  | succ k1 =>
   have H := HA.out
   clear HA
   simp only [bK_.l0] at H
   by_cases c4 : x5_1 < (l0.length : Int)
   rotate_left
   ·rw [if_neg c4] at H
    have c4b0 : decide (x5_1 < (l0.length : Int)) = false := decide_eq_false c4
    clear c4
    obtain rfl := Option.some.inj H
    go_wp2
    repeat (go_quiet (fail); try go_wp2)
    go_ret
    exact ⟨by first | rfl | (simp; done) | (simp [*]; done), by repeat (first | exact an_.refl _ | apply an_.step)⟩
   rw [if_pos c4] at H
   have c4b0 : decide (x5_1 < (l0.length : Int)) = true := decide_eq_true c4
   clear c4
   by_cases c5 : 0 ≤ x5_1
   rotate_left
   ·rw [if_neg c5] at H
    exact absurd H (by simp)
   rw [if_pos c5] at H
   have c5b0 : decide (0 ≤ x5_1) = true := decide_eq_true c5
   clear c5
   by_cases c6 : x5_1 < (l1.length : Int)
   rotate_left
   ·rw [if_neg c6] at H
    exact absurd H (by simp)
   rw [if_pos c6] at H
   have c6b0 : decide (x5_1 < (l1.length : Int)) = true := decide_eq_true c6
   clear c6
   by_cases c7 : (!((((aa_ l0 x5_1).f0).toList) == (((aa_ l1 x5_1).f0).toList)) || (!((((aa_ l0 x5_1).f1).toList) == (((aa_ l1 x5_1).f1).toList)) || (!((((aa_ l0 x5_1).f2).toList) == (((aa_ l1 x5_1).f2).toList))))) = true
   rotate_left
   ·rw [if_neg c7] at H
    have c7b0 : (!((((aa_ l0 x5_1).f0).toList) == (((aa_ l1 x5_1).f0).toList)) || (!((((aa_ l0 x5_1).f1).toList) == (((aa_ l1 x5_1).f1).toList)) || (!((((aa_ l0 x5_1).f2).toList) == (((aa_ l1 x5_1).f2).toList))))) = false := by simpa using c7
    clear c7
    have H' := Aside0.mk H
    clear H
    have p101 : 0 ≤ (x5_1 : Int) := of_decide_eq_true (by assumption)
    have q101 : x5_1 < (l0.length : Int) := of_decide_eq_true (by assumption)
    obtain ⟨ad101, e101, hx101_0, hx101_1, hx101_2⟩ := br_ HR0.out x5_1 p101 q101
    cases e101
    replace p101 := eq_true p101
    replace q101 := eq_true q101
    have p102 : 0 ≤ (x5_1 : Int) := of_decide_eq_true (by assumption)
    have q102 : x5_1 < (l1.length : Int) := of_decide_eq_true (by assumption)
    obtain ⟨ad102, e102, hx102_0, hx102_1, hx102_2⟩ := br_ HR1.out x5_1 p102 q102
    cases e102
    replace p102 := eq_true p102
    replace q102 := eq_true q102
    go_wp2
    repeat (go_quiet (fail); try go_wp2)
    go_roundg k1
    case measure => have := HK1.out; omega
    case rel => exact ⟨(wrap64 (x5_1 + 1)), (by first | rfl | (simp; done) | (simp [*]; done)), H', ⟨by have := HK1.out; omega⟩, by repeat (first | exact an_.refl _ | apply an_.step)⟩
   rw [if_pos c7] at H
   have c7b0 : (!((((aa_ l0 x5_1).f0).toList) == (((aa_ l1 x5_1).f0).toList)) || (!((((aa_ l0 x5_1).f1).toList) == (((aa_ l1 x5_1).f1).toList)) || (!((((aa_ l0 x5_1).f2).toList) == (((aa_ l1 x5_1).f2).toList))))) = true := c7
   clear c7
   obtain rfl := Option.some.inj H
   have p101 : 0 ≤ (x5_1 : Int) := of_decide_eq_true (by assumption)
   have q101 : x5_1 < (l0.length : Int) := of_decide_eq_true (by assumption)
   obtain ⟨ad101, e101, hx101_0, hx101_1, hx101_2⟩ := br_ HR0.out x5_1 p101 q101
   cases e101
   replace p101 := eq_true p101
   replace q101 := eq_true q101
   have p102 : 0 ≤ (x5_1 : Int) := of_decide_eq_true (by assumption)
   have q102 : x5_1 < (l1.length : Int) := of_decide_eq_true (by assumption)
   obtain ⟨ad102, e102, hx102_0, hx102_1, hx102_2⟩ := br_ HR1.out x5_1 p102 q102
   cases e102
   replace p102 := eq_true p102
   replace q102 := eq_true q102
   go_wp2
   repeat (go_quiet (fail); try go_wp2)
   go_ret
   exact ⟨by first | rfl | (simp; done) | (simp [*]; done), by repeat (first | exact an_.refl _ | apply an_.step)⟩
end Go.Proofs.YtjebkmfljcanlaaDoor.Q
namespace Go.Proofs.YtjebkmfljcanlaaDoor.Q
open Go.RowKit Go.Proofs.YtjebkmfljcanlaaDoorW.PrintWords Go.Proofs.YtjebkmfljcanlaaDoorW.PrintLast Go.Proofs.YtjebkmfljcanlaaDoorW.PrintMore
attribute [local go_sem] aM_ aN_ be_ bc_ aC_ aD_ aL_ aK_
def bq_.f (k : Nat) (l0 : List (S43)) (l1 : List (S43)) : Option (Bool) := (bK_.f k l0 l1).bind fun t101 => (some t101)
set_option maxHeartbeats 8000000 in
set_option maxRecDepth 100000 in
theorem bq_.calls (k : Nat) (A0 : Option Addr) (c0 : Nat) (l0 : List (S43)) (A1 : Option Addr) (c1 : Nat) (l1 : List (S43)) (r : Bool) (w : World) (hr0 : Kd.C k43 w A0 l0.length l0) (hc0 : l0.length ≤ c0) (hr1 : Kd.C k43 w A1 l1.length l1) (hc1 : l1.length ≤ c1) (h : bq_.f k l0 l1 = some r) :
  Calls Tryd.prog 25 #[.slice A0 l0.length c0, .slice A1 l1.length c1] w fun e w' => e = .returned (.bool r) ∧ an_ w w' := by
 have HR0 := Aside0.mk hr0
 have HC0 := Aside0.mk hc0
 clear hr0 hc0
 have HR1 := Aside0.mk hr1
 have HC1 := Aside0.mk hc1
 clear hr1 hc1
 have H : ((bK_.f k l0 l1).bind fun t101 => (some t101)) = some r := h
 clear h
 replace H := Option.bind_eq_some_iff.mp H
 obtain ⟨t101, A30, H⟩ := H
 (try dsimp only at H)
 have A3 := Aside0.mk A30
 clear A30
 obtain rfl := Option.some.inj H
 go_enter Tryd.func25, Tryd.ntmps25
 go_wp2_with (first | ((with_reducible refine al_ (f := 45) rfl ?_); refine bf_ (some 7) rfl rfl Tryd.func45 (by kernel_rfl) rfl #[.slice A0 l0.length c0, .slice A1 l1.length c1] rfl (by first | rfl | (simp only [lma_, lmc_, lmn_]; first | done | rfl)) ?_; (with_reducible refine (bK_.calls k _ _ l0 _ _ l1 t101 _ ?side1 ?side2 ?side3 ?side4 A3.out).mono ?_); (case side1 => exact cz HR0.out); (case side2 => exact HC0.out); (case side3 => exact cz HR1.out); (case side4 => exact HC1.out); rintro e w' ⟨rfl, ⟨nd, rfl⟩⟩; refine ⟨_, rfl, ?_⟩))
 go_ret
 exact ⟨by first | rfl | (simp; done) | (simp [*]; done), by repeat (first | exact an_.refl _ | apply an_.step)⟩
end Go.Proofs.YtjebkmfljcanlaaDoor.Q
