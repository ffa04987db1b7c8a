/- For all arguments that the law's sizes let in, the program's SalvageBlocks gives what the reference gives. This text holds the functions' walks and the words for them. -/
import Derived.Shelf.Small.Strs
import Derived.Shelf.Small.Wraps
import Derived.Shelf.Utf8.RuneCount
import Derived.Shelf.Strconv.Itoa0
import Derived.Shelf.Strconv.Itoa1
import Derived.Shelf.LaysM
import Derived.Shelf.Strconv.Itoa2
import Derived.Shelf.Strconv.Itoa3
import Derived.Shelf.Strconv.Itoa4
import Derived.Shelf.Strings.Search1
import Derived.Shelf.Strings.Search2
import Derived.Shelf.Strings.Search3
import Derived.Shelf.Strings.Count
import Derived.Shelf.Strings.Shaped
import Derived.Shelf.Strings.Prefix
import Derived.Shelf.Strings.Split
import Derived.Shelf.Strings.SplitShaped
import Derived.Shelf.Unicode.Decode
import Derived.Shelf.Strings.RuneCount
import Derived.Shelf.Strings.Explode
import Derived.Shelf.Unicode.DecodeSlow
import Derived.Shelf.Unicode.DecodeAny
import Derived.Test.YtjebkmfljcanlaaDoorProg
import Derived.Lib.LaidTab
import Derived.Lib.ItoaNum
import Derived.WalkSmall
import Derived.KernelRfl
import Derived.Lib.SplitLaws
import Derived.Lib.AppendIntMem
import Derived.Test.YtjebkmfljcanlaaDoorKFnExactSalvageBlocksa
set_option linter.unusedVariables false
set_option linter.unusedSimpArgs false
namespace Go.Proofs.YtjebkmfljcanlaaDoor.Q
open Go.RowKit Go.Proofs.YtjebkmfljcanlaaDoorW.PrintWords Go.Proofs.YtjebkmfljcanlaaDoorW.PrintLast Go.Proofs.YtjebkmfljcanlaaDoorW.PrintMore
attribute [local go_sem] aS_ aT_ bc_ bb_ aI_ aJ_ aR_ aU_
mutual
def ay_.j0 : Nat → ByteArray → Bool → Option (Bool)
 | 0, _, _ => none
 | k + 1, x0, x16 => if x16 = true then (some false) else (ay_.l0 k x0 0)
def ay_.l0 : Nat → ByteArray → Int → Option (Bool)
 | 0, _, _ => none
 | k + 1, x0, x3 => if x3 < (x0.size : Int) then (if 0 ≤ x3 then ((bp_.f (bt x0 x3)).bind fun t102 => (if t102 = true then (ay_.l0 k x0 (wrap64 (x3 + 1))) else ((bJ_.f (bt x0 x3)).bind fun t103 => (if t103 = true then (ay_.l0 k x0 (wrap64 (x3 + 1))) else (some false))))) else (none)) else (some true)
end
def ay_.f (k : Nat) (a0 : ByteArray) : Option (Bool) := if a0.toList = ([] : List UInt8) then (ay_.j0 k a0 true) else (if (a0.size : Int) > 10 then (ay_.j0 k a0 true) else (if 0 < (a0.size : Int) then ((bp_.f (bt a0 0)).bind fun t101 => (ay_.j0 k a0 (!t101))) else (none)))
set_option maxHeartbeats 8000000 in
set_option maxRecDepth 100000 in
theorem ay_.calls (k : Nat) (a0 : ByteArray) (r : Bool) (w : World) (h : ay_.f k a0 = some r) :
  Calls Tryd.prog 70 #[.string a0] w fun e w' => e = .returned (.bool r) ∧ ao_ w w' := by
 have H : (if a0.toList = ([] : List UInt8) then (ay_.j0 k a0 true) else (if (a0.size : Int) > 10 then (ay_.j0 k a0 true) else (if 0 < (a0.size : Int) then ((bp_.f (bt a0 0)).bind fun t101 => (ay_.j0 k a0 (!t101))) else (none)))) = some r := h
 clear h
 have HC2 := Aside0.mk H
 clear H
 go_enter Tryd.func70, Tryd.ntmps70
 go_upto_region 1 with (fail)
 go_cut [16] (fun v16 wc => ∃ (kq : Nat) (x16_1 : Bool), v16 = .bool x16_1 ∧ Aside0 (ay_.j0 kq a0 x16_1 = some r) ∧ Aside0 (kq ≤ k) ∧ ao_ w wc)
 case first =>
  have H := HC2.out
  clear HC2
  by_cases c3 : a0.toList = ([] : List UInt8)
  rotate_left
  ·rw [if_neg c3] at H
   have c3b0 : (a0.toList == ([] : List UInt8)) = false := beq_eq_false_iff_ne.mpr c3
   have c3b1 : (a0.toList != ([] : List UInt8)) = true := bne_iff_ne.mpr c3
   (try (have c3b8 := c3b0; simp only [List.beq_nil_eq] at c3b8))
   (first | rw [c3b0] | (simp only [i64_w, i32_w]; rw [c3b0]) | (simp only [c3b1, Bool.not_true, Bool.not_false]) | (simp only [c3b0, Bool.not_true, Bool.not_false]) | rw [c3b8] | (simp only [c3b8, Bool.not_true, Bool.not_false]) | skip)
   by_cases c4 : (a0.size : Int) > 10
   rotate_left
   ·rw [if_neg c4] at H
    have c4b0 : decide (10 < (a0.size : Int)) = false := decide_eq_false c4
    have c4b1 : decide (10 < a0.size) = false := decide_eq_false (by omega)
    clear c4
    by_cases c5 : 0 < (a0.size : Int)
    rotate_left
    ·rw [if_neg c5] at H
     exact absurd H (by simp)
    rw [if_pos c5] at H
    have c5b0 : decide (0 < (a0.size : Int)) = true := decide_eq_true c5
    have c5b1 : decide (0 < a0.size) = true := decide_eq_true (by omega)
    clear c5
    replace H := Option.bind_eq_some_iff.mp H
    obtain ⟨t101, A70, H⟩ := H
    (try dsimp only at H)
    have A7 := Aside0.mk A70
    clear A70
    have H' := Aside0.mk H
    clear H
    have p6 : 0 ≤ (0 : Int) := (by omega)
    have q6 : 0 < a0.size := (by have : (0 : Int) < (a0.size : Int) := of_decide_eq_true (by assumption); omega)
    have hx6 : ∀ h : 0 < a0.size, ((a0[0]'h).toNat : Int) = bt a0 0 := bt_at a0 0
    clear p6
    have qi6 : (0 < (a0.size : Int)) = True := eq_true (of_decide_eq_true (by assumption))
    replace q6 := eq_true q6
    go_wp2_with (first | (go_at_call 89; (with_reducible refine (bp_.calls (bt a0 0) t101 _ A7.out).mono ?_); rintro e w' ⟨rfl, ⟨nd, rfl⟩⟩))
    go_meet
    case rel => exact ⟨_, (!t101), (by first | rfl | (simp; done) | (simp [*]; done)), H', ⟨by first | omega | exact Nat.le_refl _⟩, by repeat (first | exact ao_.refl _ | apply ao_.step)⟩
   rw [if_pos c4] at H
   have c4b0 : decide (10 < (a0.size : Int)) = true := decide_eq_true c4
   have c4b1 : decide (10 < a0.size) = true := decide_eq_true (by omega)
   clear c4
   have H' := Aside0.mk H
   clear H
   go_wp2
   go_meet
   case rel => exact ⟨_, (true), (by first | rfl | (simp; done) | (simp [*]; done)), H', ⟨by first | omega | exact Nat.le_refl _⟩, by repeat (first | exact ao_.refl _ | apply ao_.step)⟩
  rw [if_pos c3] at H
  have c3b0 : (a0.toList == ([] : List UInt8)) = true := beq_iff_eq.mpr c3
  have c3b1 : (a0.toList != ([] : List UInt8)) = false := bne_eq_false_iff_eq.mpr c3
  (try (have c3b8 := c3b0; simp only [List.beq_nil_eq] at c3b8))
  clear c3
  (first | rw [c3b0] | (simp only [i64_w, i32_w]; rw [c3b0]) | (simp only [c3b1, Bool.not_true, Bool.not_false]) | (simp only [c3b0, Bool.not_true, Bool.not_false]) | rw [c3b8] | (simp only [c3b8, Bool.not_true, Bool.not_false]) | skip)
  have H' := Aside0.mk H
  clear H
  go_wp2
  go_meet
  case rel => exact ⟨_, (true), (by first | rfl | (simp; done) | (simp [*]; done)), H', ⟨by first | omega | exact Nat.le_refl _⟩, by repeat (first | exact ao_.refl _ | apply ao_.step)⟩
 case rest =>
  clear HC2
  obtain ⟨kq, x16_1, rfl, HA, HJ1, ⟨mc1, rfl⟩⟩ := hcut
  cases kq with
  | zero => exact absurd HA.out (by simp [ay_.j0])
  | succ kj1 =>
   have H := HA.out
   clear HA
   simp only [ay_.j0] at H
   by_cases c8 : x16_1 = true
   rotate_left
   ·replace c8 := Bool.eq_false_iff.mpr c8
    subst c8
    have H1 : (ay_.l0 kj1 a0 0) = some r := by rw [if_neg (show ¬ (false = true) by decide)] at H; exact H
    clear H
    have H := H1
    clear H1
    have H' := Aside0.mk H
    clear H
    go_wp2
    (try simp only [Act.put, lsa_, ls0_, ls1_])
    go_loopg [3] kj1 (fun kq v3 w' => ∃ (x3_2 : Int), v3 = .int .i64 x3_2 ∧ Aside0 (ay_.l0 kq a0 x3_2 = some r) ∧ Aside0 (kq ≤ kj1) ∧ ao_ w w')
    case atStart => exact ⟨(0), (by first | rfl | (simp; done) | (simp [*]; done)), H', ⟨Nat.le_refl _⟩, by repeat (first | exact ao_.refl _ | apply ao_.step)⟩
    case round =>
     clear H'
     obtain ⟨x3_2, rfl, HA, HK2, ⟨m2, rfl⟩⟩ := hrel
     cases gk with
     | zero => exact absurd HA.out (by simp [ay_.l0])
     | succ k2 =>
      have H := HA.out
      clear HA
      simp only [ay_.l0] at H
      by_cases c9 : x3_2 < (a0.size : Int)
      rotate_left
      ·rw [if_neg c9] at H
       have c9b0 : decide (x3_2 < (a0.size : Int)) = false := decide_eq_false c9
       clear c9
       obtain rfl := Option.some.inj H
       go_wp2
       go_ret
       exact ⟨by first | rfl | (simp; done) | (simp [*]; done), by repeat (first | exact ao_.refl _ | apply ao_.step)⟩
      rw [if_pos c9] at H
      have c9b0 : decide (x3_2 < (a0.size : Int)) = true := decide_eq_true c9
      clear c9
      by_cases c10 : 0 ≤ x3_2
      rotate_left
      ·rw [if_neg c10] at H
       exact absurd H (by simp)
      rw [if_pos c10] at H
      have c10b0 : decide (0 ≤ x3_2) = true := decide_eq_true c10
      clear c10
      replace H := Option.bind_eq_some_iff.mp H
      obtain ⟨t102, A120, H⟩ := H
      (try dsimp only at H)
      have A12 := Aside0.mk A120
      clear A120
      by_cases c13 : t102 = true
      rotate_left
      ·replace c13 := Bool.eq_false_iff.mpr c13
       subst c13
       have H1 : ((bJ_.f (bt a0 x3_2)).bind fun t103 => (if t103 = true then (ay_.l0 k2 a0 (wrap64 (x3_2 + 1))) else (some false))) = some r := by rw [if_neg (show ¬ (false = true) by decide)] at H; exact H
       clear H
       have H := H1
       clear H1
       replace H := Option.bind_eq_some_iff.mp H
       obtain ⟨t103, A150, H⟩ := H
       (try dsimp only at H)
       have A15 := Aside0.mk A150
       clear A150
       have HC16 := Aside0.mk H
       clear H
       have p11 : 0 ≤ (x3_2 : Int) := of_decide_eq_true (by assumption)
       have q11 : x3_2 < (a0.size : Int) := of_decide_eq_true (by assumption)
       have hx11 := bt_at a0 x3_2
       replace p11 := eq_true p11
       replace q11 := eq_true q11
       go_upto_if 34 with (first | ((with_reducible refine az_ (f := 89) rfl ?_); refine bn_ (some 26) rfl rfl Tryd.func89 (by kernel_rfl) rfl #[.int .u8 (bt a0 x3_2)] rfl (by first | rfl | (simp only [List.map_toArray, List.map_cons, List.map_nil]; first | done | rfl)) ?_; (with_reducible refine (bp_.calls (bt a0 x3_2) false _ A12.out).mono ?_); rintro e w' ⟨rfl, ⟨nd, rfl⟩⟩; refine ⟨_, rfl, ?_⟩; skip; have p14 : 0 ≤ (x3_2 : Int) := of_decide_eq_true (by assumption); have q14 : x3_2 < (a0.size : Int) := of_decide_eq_true (by assumption); have hx14 := bt_at a0 x3_2; replace p14 := eq_true p14; replace q14 := eq_true q14) | (go_at_call 77; (with_reducible refine (bJ_.calls (bt a0 x3_2) t103 _ A15.out).mono ?_); rintro e w' ⟨rfl, ⟨nd, rfl⟩⟩; skip))
       (try simp only [Act.put, lsa_, ls0_, ls1_])
       have H := HC16.out
       clear HC16
       by_cases c17 : t103 = true
       rotate_left
       ·replace c17 := Bool.eq_false_iff.mpr c17
        subst c17
        have H1 : (some false) = some r := by rw [if_neg (show ¬ (false = true) by decide)] at H; exact H
        clear H
        have H := H1
        clear H1
        obtain rfl := Option.some.inj H
        go_wp2
        go_ret
        exact ⟨by first | rfl | (simp; done) | (simp [*]; done), by repeat (first | exact ao_.refl _ | apply ao_.step)⟩
       subst c17
       have H1 : (ay_.l0 k2 a0 (wrap64 (x3_2 + 1))) = some r := by rw [if_pos rfl] at H; exact H
       clear H
       have H := H1
       clear H1
       have H' := Aside0.mk H
       clear H
       go_wp2
       go_roundg k2
       case measure => have := HJ1.out; have := HK2.out; omega
       case rel => exact ⟨(wrap64 (x3_2 + 1)), (by first | rfl | (simp; done) | (simp [*]; done)), H', ⟨by have := HJ1.out; have := HK2.out; omega⟩, by repeat (first | exact ao_.refl _ | apply ao_.step)⟩
      subst c13
      have H1 : (ay_.l0 k2 a0 (wrap64 (x3_2 + 1))) = some r := by rw [if_pos rfl] at H; exact H
      clear H
      have H := H1
      clear H1
      have H' := Aside0.mk H
      clear H
      have p11 : 0 ≤ (x3_2 : Int) := of_decide_eq_true (by assumption)
      have q11 : x3_2 < (a0.size : Int) := of_decide_eq_true (by assumption)
      have hx11 := bt_at a0 x3_2
      replace p11 := eq_true p11
      replace q11 := eq_true q11
      go_wp2_with (first | ((with_reducible refine az_ (f := 89) rfl ?_); refine bn_ (some 26) rfl rfl Tryd.func89 (by kernel_rfl) rfl #[.int .u8 (bt a0 x3_2)] rfl (by first | rfl | (simp only [List.map_toArray, List.map_cons, List.map_nil]; first | done | rfl)) ?_; (with_reducible refine (bp_.calls (bt a0 x3_2) true _ A12.out).mono ?_); rintro e w' ⟨rfl, ⟨nd, rfl⟩⟩; refine ⟨_, rfl, ?_⟩))
      go_roundg k2
      case measure => have := HJ1.out; have := HK2.out; omega
      case rel => exact ⟨(wrap64 (x3_2 + 1)), (by first | rfl | (simp; done) | (simp [*]; done)), H', ⟨by have := HJ1.out; have := HK2.out; omega⟩, by repeat (first | exact ao_.refl _ | apply ao_.step)⟩
   subst c8
   have H1 : (some false) = some r := by rw [if_pos rfl] at H; exact H
   clear H
   have H := H1
   clear H1
   obtain rfl := Option.some.inj H
   go_wp2
   go_ret
   exact ⟨by first | rfl | (simp; done) | (simp [*]; done), by repeat (first | exact ao_.refl _ | apply ao_.step)⟩
def aC_.l0 : Nat → List (S43) → Int → Option (Bool)
 | 0, _, _ => none
 | k + 1, x0, x3 => if 0 < (x0.length : Int) then (if x3 < (((aa_ x0 0).f2).size : Int) then (if 0 ≤ x3 then (if (bt ((aa_ x0 0).f2) x3) = 10 then (some false) else (aC_.l0 k x0 (wrap64 (x3 + 1)))) else (none)) else ((ay_.f k ((aa_ x0 0).f0)).bind fun t104 => (if t104 = true then ((ay_.f k ((aa_ x0 0).f1)).bind fun t106 => (if t106 = true then (some (decide ((((aa_ x0 0).f2).size : Int) ≤ 400))) else (some false))) else (some false)))) else (none)
def aC_.f (k : Nat) (l0 : List (S43)) : Option (Bool) := aC_.l0 k l0 0
set_option maxHeartbeats 8000000 in
set_option maxRecDepth 100000 in
theorem aC_.calls (k : Nat) (A0 : Option Addr) (l0 : List (S43)) (r : Bool) (w : World) (hr0 : Kd.C k43 w A0 l0.length l0) (h : aC_.f k l0 = some r) :
  Calls Tryd.prog 49 #[.pointer A0] w fun e w' => e = .returned (.bool r) ∧ ao_ w w' := by
 have HR0 := Aside0.mk hr0
 clear hr0
 have H : (aC_.l0 k l0 0) = some r := h
 clear h
 have H' := Aside0.mk H
 clear H
 go_enter Tryd.func49, Tryd.ntmps49
 go_wp2
 (try simp only [Act.put, lsa_, ls0_, ls1_])
 go_loopg [3] k (fun kq v3 w' => ∃ (x3_1 : Int), v3 = .int .i64 x3_1 ∧ Aside0 (aC_.l0 kq l0 x3_1 = some r) ∧ Aside0 (kq ≤ k) ∧ ao_ w w')
 case atStart => exact ⟨(0), (by first | rfl | (simp; done) | (simp [*]; done)), H', ⟨Nat.le_refl _⟩, by repeat (first | exact ao_.refl _ | apply ao_.step)⟩
 case round =>
  clear H'
  obtain ⟨x3_1, rfl, HA, HK1, ⟨m1, rfl⟩⟩ := hrel
  cases gk with
  | zero => exact absurd HA.out (by simp [aC_.l0])
  | succ k1 =>
   have H := HA.out
   clear HA
   simp only [aC_.l0] at H
   by_cases c2 : 0 < (l0.length : Int)
   rotate_left
   ·rw [if_neg c2] at H
    exact absurd H (by simp)
   rw [if_pos c2] at H
   have c2b0 : decide (0 < (l0.length : Int)) = true := decide_eq_true c2
   have c2b1 : decide (0 < l0.length) = true := decide_eq_true (by omega)
   clear c2
   by_cases c3 : x3_1 < (((aa_ l0 0).f2).size : Int)
   rotate_left
   ·rw [if_neg c3] at H
    have c3b0 : decide (x3_1 < (((aa_ l0 0).f2).size : Int)) = false := decide_eq_false c3
    clear c3
    replace H := Option.bind_eq_some_iff.mp H
    obtain ⟨t104, A70, H⟩ := H
    (try dsimp only at H)
    have A7 := Aside0.mk A70
    clear A70
    by_cases c8 : t104 = true
    rotate_left
    ·replace c8 := Bool.eq_false_iff.mpr c8
     subst c8
     have H1 : (some false) = some r := by rw [if_neg (show ¬ (false = true) by decide)] at H; exact H
     clear H
     have H := H1
     clear H1
     obtain rfl := Option.some.inj H
     have p101 : 0 ≤ (0 : Int) := (by omega)
     have q101 : 0 < (l0.length : Int) := of_decide_eq_true (by assumption)
     obtain ⟨ad101, e101, hx101_0, hx101_1, hx101_2⟩ := aW_ HR0.out 0 p101 q101
     cases e101
     have qi101 : (0 < l0.length) = True := eq_true (by omega)
     (try simp only [show ((0 : Int)).toNat = 0 from rfl, show 0 * 3 = 0 from rfl, Addr.add_zero'] at hx101_0)
     (try simp only [show ((0 : Int)).toNat = 0 from rfl, show 0 * 3 = 0 from rfl, Addr.add_zero'] at hx101_1)
     (try simp only [show ((0 : Int)).toNat = 0 from rfl, show 0 * 3 = 0 from rfl, Addr.add_zero'] at hx101_2)
     replace p101 := eq_true p101
     replace q101 := eq_true q101
     have p103 : 0 ≤ (0 : Int) := (by omega)
     have q103 : 0 < (l0.length : Int) := of_decide_eq_true (by assumption)
     obtain ⟨ad103, e103, hx103_0, hx103_1, hx103_2⟩ := aW_ HR0.out 0 p103 q103
     obtain rfl : ad101 = ad103 := (by injection e103)
     have qi103 : (0 < l0.length) = True := eq_true (by omega)
     (try simp only [show ((0 : Int)).toNat = 0 from rfl, show 0 * 3 = 0 from rfl, Addr.add_zero'] at hx103_0)
     (try simp only [show ((0 : Int)).toNat = 0 from rfl, show 0 * 3 = 0 from rfl, Addr.add_zero'] at hx103_1)
     (try simp only [show ((0 : Int)).toNat = 0 from rfl, show 0 * 3 = 0 from rfl, Addr.add_zero'] at hx103_2)
     replace p103 := eq_true p103
     replace q103 := eq_true q103
     go_wp2_with (first | ((with_reducible refine az_ (f := 70) rfl ?_); refine bn_ (some 24) rfl rfl Tryd.func70 (by kernel_rfl) rfl #[.string ((aa_ l0 0).f0)] rfl (by first | rfl | (simp only [List.map_toArray, List.map_cons, List.map_nil]; first | done | rfl)) ?_; (with_reducible refine (ay_.calls k1 ((aa_ l0 0).f0) false _ A7.out).mono ?_); rintro e w' ⟨rfl, ⟨nd, rfl⟩⟩; refine ⟨_, rfl, ?_⟩))
     go_ret
     exact ⟨by first | rfl | (simp; done) | (simp [*]; done), by repeat (first | exact ao_.refl _ | apply ao_.step)⟩
    subst c8
    have H1 : ((ay_.f k1 ((aa_ l0 0).f1)).bind fun t106 => (if t106 = true then (some (decide ((((aa_ l0 0).f2).size : Int) ≤ 400))) else (some false))) = some r := by rw [if_pos rfl] at H; exact H
    clear H
    have H := H1
    clear H1
    replace H := Option.bind_eq_some_iff.mp H
    obtain ⟨t106, A90, H⟩ := H
    (try dsimp only at H)
    have A9 := Aside0.mk A90
    clear A90
    by_cases c10 : t106 = true
    rotate_left
    ·replace c10 := Bool.eq_false_iff.mpr c10
     subst c10
     have H1 : (some false) = some r := by rw [if_neg (show ¬ (false = true) by decide)] at H; exact H
     clear H
     have H := H1
     clear H1
     obtain rfl := Option.some.inj H
     have p101 : 0 ≤ (0 : Int) := (by omega)
     have q101 : 0 < (l0.length : Int) := of_decide_eq_true (by assumption)
     obtain ⟨ad101, e101, hx101_0, hx101_1, hx101_2⟩ := aW_ HR0.out 0 p101 q101
     cases e101
     have qi101 : (0 < l0.length) = True := eq_true (by omega)
     (try simp only [show ((0 : Int)).toNat = 0 from rfl, show 0 * 3 = 0 from rfl, Addr.add_zero'] at hx101_0)
     (try simp only [show ((0 : Int)).toNat = 0 from rfl, show 0 * 3 = 0 from rfl, Addr.add_zero'] at hx101_1)
     (try simp only [show ((0 : Int)).toNat = 0 from rfl, show 0 * 3 = 0 from rfl, Addr.add_zero'] at hx101_2)
     replace p101 := eq_true p101
     replace q101 := eq_true q101
     have p103 : 0 ≤ (0 : Int) := (by omega)
     have q103 : 0 < (l0.length : Int) := of_decide_eq_true (by assumption)
     obtain ⟨ad103, e103, hx103_0, hx103_1, hx103_2⟩ := aW_ HR0.out 0 p103 q103
     obtain rfl : ad101 = ad103 := (by injection e103)
     have qi103 : (0 < l0.length) = True := eq_true (by omega)
     (try simp only [show ((0 : Int)).toNat = 0 from rfl, show 0 * 3 = 0 from rfl, Addr.add_zero'] at hx103_0)
     (try simp only [show ((0 : Int)).toNat = 0 from rfl, show 0 * 3 = 0 from rfl, Addr.add_zero'] at hx103_1)
     (try simp only [show ((0 : Int)).toNat = 0 from rfl, show 0 * 3 = 0 from rfl, Addr.add_zero'] at hx103_2)
     replace p103 := eq_true p103
     replace q103 := eq_true q103
     go_wp2_with (first | ((with_reducible refine az_ (f := 70) rfl ?_); refine bn_ (some 24) rfl rfl Tryd.func70 (by kernel_rfl) rfl #[.string ((aa_ l0 0).f0)] rfl (by first | rfl | (simp only [List.map_toArray, List.map_cons, List.map_nil]; first | done | rfl)) ?_; (with_reducible refine (ay_.calls k1 ((aa_ l0 0).f0) true _ A7.out).mono ?_); rintro e w' ⟨rfl, ⟨nd, rfl⟩⟩; refine ⟨_, rfl, ?_⟩; have p105 : 0 ≤ (0 : Int) := (by omega); have q105 : 0 < (l0.length : Int) := of_decide_eq_true (by assumption); obtain ⟨ad105, e105, hx105_0, hx105_1, hx105_2⟩ := aW_ HR0.out 0 p105 q105; obtain rfl : ad101 = ad105 := (by injection e105); have qi105 : (0 < l0.length) = True := eq_true (by omega); (try rw [show ((0 : Int)).toNat = 0 from rfl] at hx105_0); (try rw [show 0 * 3 = 0 from rfl] at hx105_0); (try rw [Addr.add_zero'] at hx105_0); (try rw [show ((0 : Int)).toNat = 0 from rfl] at hx105_1); (try rw [show 0 * 3 = 0 from rfl] at hx105_1); (try rw [Addr.add_zero'] at hx105_1); (try rw [show ((0 : Int)).toNat = 0 from rfl] at hx105_2); (try rw [show 0 * 3 = 0 from rfl] at hx105_2); (try rw [Addr.add_zero'] at hx105_2); replace p105 := eq_true p105; replace q105 := eq_true q105) | (go_at_call 70; (with_reducible refine (ay_.calls k1 ((aa_ l0 0).f1) false _ A9.out).mono ?_); rintro e w' ⟨rfl, ⟨nd, rfl⟩⟩))
     go_ret
     exact ⟨by first | rfl | (simp; done) | (simp [*]; done), by repeat (first | exact ao_.refl _ | apply ao_.step)⟩
    subst c10
    have H1 : (some (decide ((((aa_ l0 0).f2).size : Int) ≤ 400))) = some r := by rw [if_pos rfl] at H; exact H
    clear H
    have H := H1
    clear H1
    obtain rfl := Option.some.inj H
    have p101 : 0 ≤ (0 : Int) := (by omega)
    have q101 : 0 < (l0.length : Int) := of_decide_eq_true (by assumption)
    obtain ⟨ad101, e101, hx101_0, hx101_1, hx101_2⟩ := aW_ HR0.out 0 p101 q101
    cases e101
    have qi101 : (0 < l0.length) = True := eq_true (by omega)
    (try simp only [show ((0 : Int)).toNat = 0 from rfl, show 0 * 3 = 0 from rfl, Addr.add_zero'] at hx101_0)
    (try simp only [show ((0 : Int)).toNat = 0 from rfl, show 0 * 3 = 0 from rfl, Addr.add_zero'] at hx101_1)
    (try simp only [show ((0 : Int)).toNat = 0 from rfl, show 0 * 3 = 0 from rfl, Addr.add_zero'] at hx101_2)
    replace p101 := eq_true p101
    replace q101 := eq_true q101
    have p103 : 0 ≤ (0 : Int) := (by omega)
    have q103 : 0 < (l0.length : Int) := of_decide_eq_true (by assumption)
    obtain ⟨ad103, e103, hx103_0, hx103_1, hx103_2⟩ := aW_ HR0.out 0 p103 q103
    obtain rfl : ad101 = ad103 := (by injection e103)
    have qi103 : (0 < l0.length) = True := eq_true (by omega)
    (try simp only [show ((0 : Int)).toNat = 0 from rfl, show 0 * 3 = 0 from rfl, Addr.add_zero'] at hx103_0)
    (try simp only [show ((0 : Int)).toNat = 0 from rfl, show 0 * 3 = 0 from rfl, Addr.add_zero'] at hx103_1)
    (try simp only [show ((0 : Int)).toNat = 0 from rfl, show 0 * 3 = 0 from rfl, Addr.add_zero'] at hx103_2)
    replace p103 := eq_true p103
    replace q103 := eq_true q103
    go_wp2_with (first | ((with_reducible refine az_ (f := 70) rfl ?_); refine bn_ (some 24) rfl rfl Tryd.func70 (by kernel_rfl) rfl #[.string ((aa_ l0 0).f0)] rfl (by first | rfl | (simp only [List.map_toArray, List.map_cons, List.map_nil]; first | done | rfl)) ?_; (with_reducible refine (ay_.calls k1 ((aa_ l0 0).f0) true _ A7.out).mono ?_); rintro e w' ⟨rfl, ⟨nd, rfl⟩⟩; refine ⟨_, rfl, ?_⟩; have p105 : 0 ≤ (0 : Int) := (by omega); have q105 : 0 < (l0.length : Int) := of_decide_eq_true (by assumption); obtain ⟨ad105, e105, hx105_0, hx105_1, hx105_2⟩ := aW_ HR0.out 0 p105 q105; obtain rfl : ad101 = ad105 := (by injection e105); have qi105 : (0 < l0.length) = True := eq_true (by omega); (try rw [show ((0 : Int)).toNat = 0 from rfl] at hx105_0); (try rw [show 0 * 3 = 0 from rfl] at hx105_0); (try rw [Addr.add_zero'] at hx105_0); (try rw [show ((0 : Int)).toNat = 0 from rfl] at hx105_1); (try rw [show 0 * 3 = 0 from rfl] at hx105_1); (try rw [Addr.add_zero'] at hx105_1); (try rw [show ((0 : Int)).toNat = 0 from rfl] at hx105_2); (try rw [show 0 * 3 = 0 from rfl] at hx105_2); (try rw [Addr.add_zero'] at hx105_2); replace p105 := eq_true p105; replace q105 := eq_true q105) | (go_at_call 70; (with_reducible refine (ay_.calls k1 ((aa_ l0 0).f1) true _ A9.out).mono ?_); rintro e w' ⟨rfl, ⟨nd, rfl⟩⟩; have p107 : 0 ≤ (0 : Int) := (by omega); have q107 : 0 < (l0.length : Int) := of_decide_eq_true (by assumption); obtain ⟨ad107, e107, hx107_0, hx107_1, hx107_2⟩ := aW_ HR0.out 0 p107 q107; obtain rfl : ad101 = ad107 := (by injection e107); have qi107 : (0 < l0.length) = True := eq_true (by omega); (try rw [show ((0 : Int)).toNat = 0 from rfl] at hx107_0); (try rw [show 0 * 3 = 0 from rfl] at hx107_0); (try rw [Addr.add_zero'] at hx107_0); (try rw [show ((0 : Int)).toNat = 0 from rfl] at hx107_1); (try rw [show 0 * 3 = 0 from rfl] at hx107_1); (try rw [Addr.add_zero'] at hx107_1); (try rw [show ((0 : Int)).toNat = 0 from rfl] at hx107_2); (try rw [show 0 * 3 = 0 from rfl] at hx107_2); (try rw [Addr.add_zero'] at hx107_2); replace p107 := eq_true p107; replace q107 := eq_true q107))
    go_ret
    exact ⟨by first | rfl | (simp; done) | (simp [*]; done), by repeat (first | exact ao_.refl _ | apply ao_.step)⟩
   rw [if_pos c3] at H
   have c3b0 : decide (x3_1 < (((aa_ l0 0).f2).size : Int)) = true := decide_eq_true c3
   clear c3
   by_cases c4 : 0 ≤ x3_1
   rotate_left
   ·rw [if_neg c4] at H
    exact absurd H (by simp)
   rw [if_pos c4] at H
   have c4b0 : decide (0 ≤ x3_1) = true := decide_eq_true c4
   clear c4
   by_cases c6 : (bt ((aa_ l0 0).f2) x3_1) = 10
   rotate_left
   ·rw [if_neg c6] at H
    have c6b0 : ((bt ((aa_ l0 0).f2) x3_1) == 10) = false := beq_eq_false_iff_ne.mpr c6
    have c6b1 : ((bt ((aa_ l0 0).f2) x3_1) != 10) = true := bne_iff_ne.mpr c6
    have H' := Aside0.mk H
    clear H
    have p101 : 0 ≤ (0 : Int) := (by omega)
    have q101 : 0 < (l0.length : Int) := of_decide_eq_true (by assumption)
    obtain ⟨ad101, e101, hx101_0, hx101_1, hx101_2⟩ := aW_ HR0.out 0 p101 q101
    cases e101
    have qi101 : (0 < l0.length) = True := eq_true (by omega)
    (try simp only [show ((0 : Int)).toNat = 0 from rfl, show 0 * 3 = 0 from rfl, Addr.add_zero'] at hx101_0)
    (try simp only [show ((0 : Int)).toNat = 0 from rfl, show 0 * 3 = 0 from rfl, Addr.add_zero'] at hx101_1)
    (try simp only [show ((0 : Int)).toNat = 0 from rfl, show 0 * 3 = 0 from rfl, Addr.add_zero'] at hx101_2)
    replace p101 := eq_true p101
    replace q101 := eq_true q101
    have p102 : 0 ≤ (0 : Int) := (by omega)
    have q102 : 0 < (l0.length : Int) := of_decide_eq_true (by assumption)
    obtain ⟨ad102, e102, hx102_0, hx102_1, hx102_2⟩ := aW_ HR0.out 0 p102 q102
    obtain rfl : ad101 = ad102 := (by injection e102)
    have qi102 : (0 < l0.length) = True := eq_true (by omega)
    (try simp only [show ((0 : Int)).toNat = 0 from rfl, show 0 * 3 = 0 from rfl, Addr.add_zero'] at hx102_0)
    (try simp only [show ((0 : Int)).toNat = 0 from rfl, show 0 * 3 = 0 from rfl, Addr.add_zero'] at hx102_1)
    (try simp only [show ((0 : Int)).toNat = 0 from rfl, show 0 * 3 = 0 from rfl, Addr.add_zero'] at hx102_2)
    replace p102 := eq_true p102
    replace q102 := eq_true q102
    have p5 : 0 ≤ (x3_1 : Int) := of_decide_eq_true (by assumption)
    have q5 : x3_1 < (((aa_ l0 0).f2).size : Int) := of_decide_eq_true (by assumption)
    have hx5 := bt_at ((aa_ l0 0).f2) x3_1
    replace p5 := eq_true p5
    replace q5 := eq_true q5
    go_wp2
    go_roundg k1
    case measure => have := HK1.out; omega
    case rel => exact ⟨(wrap64 (x3_1 + 1)), (by first | rfl | (simp; done) | (simp [*]; done)), H', ⟨by have := HK1.out; omega⟩, by repeat (first | exact ao_.refl _ | apply ao_.step)⟩
   rw [if_pos c6] at H
   have c6b0 : ((bt ((aa_ l0 0).f2) x3_1) == 10) = true := beq_iff_eq.mpr c6
   have c6b1 : ((bt ((aa_ l0 0).f2) x3_1) != 10) = false := bne_eq_false_iff_eq.mpr c6
   clear c6
   obtain rfl := Option.some.inj H
   have p101 : 0 ≤ (0 : Int) := (by omega)
   have q101 : 0 < (l0.length : Int) := of_decide_eq_true (by assumption)
   obtain ⟨ad101, e101, hx101_0, hx101_1, hx101_2⟩ := aW_ HR0.out 0 p101 q101
   cases e101
   have qi101 : (0 < l0.length) = True := eq_true (by omega)
   (try simp only [show ((0 : Int)).toNat = 0 from rfl, show 0 * 3 = 0 from rfl, Addr.add_zero'] at hx101_0)
   (try simp only [show ((0 : Int)).toNat = 0 from rfl, show 0 * 3 = 0 from rfl, Addr.add_zero'] at hx101_1)
   (try simp only [show ((0 : Int)).toNat = 0 from rfl, show 0 * 3 = 0 from rfl, Addr.add_zero'] at hx101_2)
   replace p101 := eq_true p101
   replace q101 := eq_true q101
   have p102 : 0 ≤ (0 : Int) := (by omega)
   have q102 : 0 < (l0.length : Int) := of_decide_eq_true (by assumption)
   obtain ⟨ad102, e102, hx102_0, hx102_1, hx102_2⟩ := aW_ HR0.out 0 p102 q102
   obtain rfl : ad101 = ad102 := (by injection e102)
   have qi102 : (0 < l0.length) = True := eq_true (by omega)
   (try simp only [show ((0 : Int)).toNat = 0 from rfl, show 0 * 3 = 0 from rfl, Addr.add_zero'] at hx102_0)
   (try simp only [show ((0 : Int)).toNat = 0 from rfl, show 0 * 3 = 0 from rfl, Addr.add_zero'] at hx102_1)
   (try simp only [show ((0 : Int)).toNat = 0 from rfl, show 0 * 3 = 0 from rfl, Addr.add_zero'] at hx102_2)
   replace p102 := eq_true p102
   replace q102 := eq_true q102
   have p5 : 0 ≤ (x3_1 : Int) := of_decide_eq_true (by assumption)
   have q5 : x3_1 < (((aa_ l0 0).f2).size : Int) := of_decide_eq_true (by assumption)
   have hx5 := bt_at ((aa_ l0 0).f2) x3_1
   replace p5 := eq_true p5
   replace q5 := eq_true q5
   go_wp2
   go_ret
   exact ⟨by first | rfl | (simp; done) | (simp [*]; done), by repeat (first | exact ao_.refl _ | apply ao_.step)⟩
mutual
def ae_.j0 : Nat → ByteArray → Bool → Option (ByteArray × ByteArray × ByteArray × Int)
 | 0, _, _ => none
 | k + 1, x0, x15 => if x15 = true then (some ((⟨#[]⟩ : ByteArray), (⟨#[]⟩ : ByteArray), (⟨#[]⟩ : ByteArray), 9)) else (if 6 ≤ (x0.size : Int) then ((some (x0.extract 6 x0.size : ByteArray)).bind fun y102 => (if 5 ≤ (x0.size : Int) then ((aH_.f k y102 65535).bind fun t104 => ((aY_.f k t104).bind fun t105 => (if (x0.extract 0 5).toList = t105.toList then (ae_.l0 k y102 0) else (some ((⟨#[]⟩ : ByteArray), (⟨#[]⟩ : ByteArray), (⟨#[]⟩ : ByteArray), 10))))) else (none))) else (none))
def ae_.j2 : Nat → ByteArray → Int → Option (ByteArray × ByteArray × ByteArray × Int)
 | 0, _, _ => none
 | k + 1, x4, x5 => ae_.l1 k x4 x5 (wrap64 (x5 + 1))
def ae_.j4 : Nat → ByteArray → Int → Int → Option (ByteArray × ByteArray × ByteArray × Int)
 | 0, _, _, _ => none
 | k + 1, x4, x5, x6 => if x6 ≥ (x4.size : Int) then (some ((⟨#[]⟩ : ByteArray), (⟨#[]⟩ : ByteArray), (⟨#[]⟩ : ByteArray), 9)) else (if 0 ≤ x5 then (if x5 ≤ (x4.size : Int) then ((some (x4.extract 0 (x5 : Int).toNat : ByteArray)).bind fun y106 => (if 0 ≤ (wrap64 (x5 + 1)) then (if (wrap64 (x5 + 1)) ≤ x6 then (if x6 ≤ (x4.size : Int) then ((some (x4.extract ((wrap64 (x5 + 1)) : Int).toNat (x6 : Int).toNat : ByteArray)).bind fun y107 => (if 0 ≤ (wrap64 (x6 + 1)) then (if (wrap64 (x6 + 1)) ≤ (x4.size : Int) then ((some (x4.extract ((wrap64 (x6 + 1)) : Int).toNat x4.size : ByteArray)).bind fun y108 => ((aC_.f k [(⟨y106, y107, y108⟩ : S43)]).bind fun t110 => (if t110 = true then (some (y106, y107, y108, 0)) else (some ((⟨#[]⟩ : ByteArray), (⟨#[]⟩ : ByteArray), (⟨#[]⟩ : ByteArray), 9))))) else (none)) else (none))) else (none)) else (none)) else (none))) else (none)) else (none))
def ae_.l1 : Nat → ByteArray → Int → Int → Option (ByteArray × ByteArray × ByteArray × Int)
 | 0, _, _, _ => none
 | k + 1, x4, x5, x6 => if x6 < (x4.size : Int) then (if 0 ≤ x6 then (if (bt x4 x6) = 32 then (ae_.j4 k x4 x5 x6) else (ae_.l1 k x4 x5 (wrap64 (x6 + 1)))) else (none)) else (ae_.j4 k x4 x5 x6)
def ae_.l0 : Nat → ByteArray → Int → Option (ByteArray × ByteArray × ByteArray × Int)
 | 0, _, _ => none
 | k + 1, x4, x5 => if x5 < (x4.size : Int) then (if 0 ≤ x5 then (if (bt x4 x5) = 32 then (ae_.j2 k x4 x5) else (ae_.l0 k x4 (wrap64 (x5 + 1)))) else (none)) else (ae_.j2 k x4 x5)
end
def ae_.f (k : Nat) (a0 : ByteArray) : Option (ByteArray × ByteArray × ByteArray × Int) := if (a0.size : Int) < 6 then (ae_.j0 k a0 true) else (if 5 < (a0.size : Int) then (ae_.j0 k a0 ((bt a0 5) != 32)) else (none))
def ae_.T14 : Bool × List (List Nat × List Nat) := (true, [([], []), ([], []), ([0, 1], [0, 1]), ([], []), ([], []), ([4], [4]), ([], []), ([3, 5, 6], [3, 5, 6]), ([], []), ([], []), ([9], [9]), ([8, 10], [8, 10]), ([2, 7, 11], [2, 7, 11]), ([], []), ([13, 12, 0, 1, 2, 3, 4, 5, 6, 7, 8, 9, 10, 11, 12, 13], [12, 13])])
def ae_.B14 : List Nat := [0, 0, 3, 0, 0, 16, 0, 120, 0, 0, 512, 1792, 4095, 0, 16383]
theorem ae_.tab14 : rtab .any (opsOf Tryd.f27 14) = ae_.T14 := by kernel_rfl
theorem ae_.bits14 : bT_ ae_.T14.2 ae_.B14 = true := by kernel_rfl
set_option maxHeartbeats 8000000 in
set_option maxRecDepth 100000 in
theorem ae_.calls (k : Nat) (a0 : ByteArray) (r1 : ByteArray) (r2 : ByteArray) (r3 : ByteArray) (r4 : Int) (w : World) (h : ae_.f k a0 = some (r1, r2, r3, r4)) :
  Calls Tryd.prog 27 #[.string a0] w fun e w' => e = .returned (.tuple #[.agg #[.string r1, .string r2, .string r3], .int .i64 r4]) ∧ Below w.heap.size w w' := by
 have hu43 := Tryd.underlying43
 have HB := Aside0.mk (Below.refl w.heap.size w)
 have H : (if (a0.size : Int) < 6 then (ae_.j0 k a0 true) else (if 5 < (a0.size : Int) then (ae_.j0 k a0 ((bt a0 5) != 32)) else (none))) = some (r1, r2, r3, r4) := h
 clear h
 have HC2 := Aside0.mk H
 clear H
 go_enter Tryd.func27, Tryd.ntmps27
 go_upto_region 1 with (first | ((with_reducible refine be_ (N := 2) rfl ?_); refine bm_ ?hg (N := 2) ?hd (cs := #[.string (⟨#[]⟩ : ByteArray), .string (⟨#[]⟩ : ByteArray), .string (⟨#[]⟩ : ByteArray)]) (t := 43) ?hr ?_; (case hd => rfl); (case hg => rfl); (case hr => (go_simp; try rfl)); intro gb101 hg w3 hbox hb; have BK101 := Aside0.mk (hbox); have GW101 := Aside0.mk ((by rw [hg]; exact (ah_ (bz HB.out)) : w.heap.size ≤ gb101)); have GE101 := Aside0.mk ((by rw [hg]; exact (ah_ (bz HB.out)) : w.heap.size ≤ gb101)); replace HB := Aside0.mk (ak_ (bz HB.out) hb); clear hb hbox hg))
 (try simp only [Act.put, lsa_, ls0_, ls1_])
 go_cut [15] (fun v15 wc => ∃ (kq : Nat) (x15_1 : Bool), v15 = .bool x15_1 ∧ Aside0 (ae_.j0 kq a0 x15_1 = some (r1, r2, r3, r4)) ∧ Aside0 (kq ≤ k) ∧ Aside0 (wc.heap[gb101]? = some (.cells #[.string (⟨#[]⟩ : ByteArray), .string (⟨#[]⟩ : ByteArray), .string (⟨#[]⟩ : ByteArray)] 43 (0, 0))) ∧ Aside0 (Below w.heap.size w wc))
 case first =>
  have H := HC2.out
  clear HC2
  by_cases c4 : (a0.size : Int) < 6
  rotate_left
  ·rw [if_neg c4] at H
   have c4b0 : decide ((a0.size : Int) < 6) = false := decide_eq_false c4
   have c4b1 : decide (a0.size < 6) = false := decide_eq_false (by omega)
   clear c4
   (first | rw [c4b0] | (simp only [i64_w, i32_w]; rw [c4b0]) | (simp only [c4b1, Bool.not_true, Bool.not_false]) | (simp only [c4b0, Bool.not_true, Bool.not_false]) | skip)
   by_cases c5 : 5 < (a0.size : Int)
   rotate_left
   ·rw [if_neg c5] at H
    exact absurd H (by simp)
   rw [if_pos c5] at H
   have c5b0 : decide (5 < (a0.size : Int)) = true := decide_eq_true c5
   have c5b1 : decide (5 < a0.size) = true := decide_eq_true (by omega)
   clear c5
   have H' := Aside0.mk H
   clear H
   have p6 : 0 ≤ (5 : Int) := (by omega)
   have q6 : 5 < a0.size := (by have : (5 : Int) < (a0.size : Int) := of_decide_eq_true (by assumption); omega)
   have hx6 : ∀ h : 5 < a0.size, ((a0[5]'h).toNat : Int) = bt a0 5 := bt_at a0 5
   clear p6
   have qi6 : (5 < (a0.size : Int)) = True := eq_true (of_decide_eq_true (by assumption))
   replace q6 := eq_true q6
   go_wp2
   go_meet
   case rel => exact ⟨_, (((bt a0 5) != 32)), (by first | rfl | (simp; done) | (simp [*]; done)), H', ⟨by first | omega | exact Nat.le_refl _⟩, ⟨by (with_reducible repeat (first | refine ag_ ?_ _ | refine ai_ ?_ | refine af_ ?_ _)); exact BK101.out⟩, ⟨by repeat (first | (with_reducible first | exact HB.out | apply bA_ | apply bN_ | apply bD_ | refine ac_ ?_ GE101.out) | exact HB.out)⟩⟩
  rw [if_pos c4] at H
  have c4b0 : decide ((a0.size : Int) < 6) = true := decide_eq_true c4
  have c4b1 : decide (a0.size < 6) = true := decide_eq_true (by omega)
  clear c4
  (first | rw [c4b0] | (simp only [i64_w, i32_w]; rw [c4b0]) | (simp only [c4b1, Bool.not_true, Bool.not_false]) | (simp only [c4b0, Bool.not_true, Bool.not_false]) | skip)
  have H' := Aside0.mk H
  clear H
  go_wp2
  go_meet
  case rel => exact ⟨_, (true), (by first | rfl | (simp; done) | (simp [*]; done)), H', ⟨by first | omega | exact Nat.le_refl _⟩, ⟨by (with_reducible repeat (first | refine ag_ ?_ _ | refine ai_ ?_ | refine af_ ?_ _)); exact BK101.out⟩, ⟨by repeat (first | (with_reducible first | exact HB.out | apply bA_ | apply bN_ | apply bD_ | refine ac_ ?_ GE101.out) | exact HB.out)⟩⟩
 case rest =>
  clear HC2
  obtain ⟨kq, x15_1, rfl, HA, HJ1, BK101, HB⟩ := hcut
  cases kq with
  | zero => exact absurd HA.out (by simp [ae_.j0])
  | succ kj1 =>
   have H := HA.out
   clear HA
   simp only [ae_.j0] at H
   by_cases c7 : x15_1 = true
   rotate_left
   ·replace c7 := Bool.eq_false_iff.mpr c7
    subst c7
    have H1 : (if 6 ≤ (a0.size : Int) then ((some (a0.extract 6 a0.size : ByteArray)).bind fun y102 => (if 5 ≤ (a0.size : Int) then ((aH_.f kj1 y102 65535).bind fun t104 => ((aY_.f kj1 t104).bind fun t105 => (if (a0.extract 0 5).toList = t105.toList then (ae_.l0 kj1 y102 0) else (some ((⟨#[]⟩ : ByteArray), (⟨#[]⟩ : ByteArray), (⟨#[]⟩ : ByteArray), 10))))) else (none))) else (none)) = some (r1, r2, r3, r4) := by rw [if_neg (show ¬ (false = true) by decide)] at H; exact H
    clear H
    have H := H1
    clear H1
    by_cases c9 : 6 ≤ (a0.size : Int)
    rotate_left
    ·rw [if_neg c9] at H
     exact absurd H (by simp)
    rw [if_pos c9] at H
    have c9b0 := eq_true c9
    have c9b1 : decide (6 ≤ (a0.size : Int)) = true := decide_eq_true c9
    clear c9
    obtain ⟨y102, hy102⟩ : ∃ y_ : ByteArray, y_ = (a0.extract 6 a0.size) := ⟨_, rfl⟩
    replace H : (if 5 ≤ (a0.size : Int) then ((aH_.f kj1 y102 65535).bind fun t104 => ((aY_.f kj1 t104).bind fun t105 => (if (a0.extract 0 5).toList = t105.toList then (ae_.l0 kj1 y102 0) else (some ((⟨#[]⟩ : ByteArray), (⟨#[]⟩ : ByteArray), (⟨#[]⟩ : ByteArray), 10))))) else (none)) = some (r1, r2, r3, r4) := by first | (rw [hy102]; with_reducible exact H) | (have H2_ := (Option.bind_some _ _).symm.trans H; rw [hy102]; with_reducible exact H2_) | (have H2_ := (Option.bind_some _ _).symm.trans H; with_reducible exact H2_) | with_reducible exact H | (rw [hy102]; exact H) | exact H
    have Ny102 := Aside0.mk hy102
    clear hy102
    have Sy102 := Ny102.out.symm
    by_cases c10 : 5 ≤ (a0.size : Int)
    rotate_left
    ·rw [if_neg c10] at H
     exact absurd H (by simp)
    rw [if_pos c10] at H
    have c10b0 := eq_true c10
    have c10b1 : decide (5 ≤ (a0.size : Int)) = true := decide_eq_true c10
    clear c10
    obtain ⟨y103, hy103⟩ : ∃ y_ : ByteArray, y_ = (a0.extract 0 5) := ⟨_, rfl⟩
    replace H : ((aH_.f kj1 y102 65535).bind fun t104 => ((aY_.f kj1 t104).bind fun t105 => (if y103.toList = t105.toList then (ae_.l0 kj1 y102 0) else (some ((⟨#[]⟩ : ByteArray), (⟨#[]⟩ : ByteArray), (⟨#[]⟩ : ByteArray), 10))))) = some (r1, r2, r3, r4) := by first | (rw [hy103]; with_reducible exact H) | (have H2_ := (Option.bind_some _ _).symm.trans H; rw [hy103]; with_reducible exact H2_) | (have H2_ := (Option.bind_some _ _).symm.trans H; with_reducible exact H2_) | with_reducible exact H | (rw [hy103]; exact H) | exact H
    have Ny103 := Aside0.mk hy103
    clear hy103
    have Sy103 := Ny103.out.symm
    replace H := Option.bind_eq_some_iff.mp H
    obtain ⟨t104, A110, H⟩ := H
    (try dsimp only at H)
    have A11 := Aside0.mk A110
    clear A110
    replace H := Option.bind_eq_some_iff.mp H
    obtain ⟨t105, A120, H⟩ := H
    (try dsimp only at H)
    have A12 := Aside0.mk A120
    clear A120
    have HC13 := Aside0.mk H
    clear H
    try go_wp2
    have n0_ := Aside0.mk (ai_ BK101.out)
    have n1_ := Aside0.mk (bD_ HB.out)
    clear BK101
    clear HB
    have BK101 := n0_
    have HB := n1_
    clear n0_ n1_
    refine start_ (n := 6) (S := fun w' => True) (ds := []) #[f_,f_,f_,f_,f_,f_] (by kernel_rfl) rfl rfl trivial (fun hHeld => ?_)
    generalize wc.drew = w14 at BK101 HB hHeld ⊢
    refine pure_ (i := 0) (N := some 19) (v := ?_) (a' := ?_) #[t_,f_,f_,f_,f_,f_] rfl rfl (by kernel_rfl) (fun _ _ _ h => h) (Or.inl ⟨by rfl, ?_⟩) ?_ ?_
    rotate_left
    ·intro w'
     go_simp
     with_reducible rfl
    rotate_left
    ·simp only [Act.put, lsa_, ls0_, ls1_, i64_w, i32_w]
     rfl
    refine pure_ (i := 1) (N := some 20) (v := ?_) (a' := ?_) #[t_,t_,f_,f_,f_,f_] rfl rfl (by kernel_rfl) (fun _ _ _ h => h) (Or.inl ⟨by rfl, ?_⟩) ?_ ?_
    rotate_left
    ·intro w'
     go_simp
     with_reducible rfl
    rotate_left
    ·simp only [Act.put, lsa_, ls0_, ls1_, i64_w, i32_w]
     rfl
    refine pure_ (i := 2) (N := some 21) (v := ?_) (a' := ?_) #[t_,t_,t_,f_,f_,f_] rfl rfl (by kernel_rfl) (fun _ _ _ h => h) (Or.inl ⟨by rfl, ?_⟩) ?_ ?_
    rotate_left
    ·intro w'
     go_simp
     with_reducible rfl
    rotate_left
    ·simp only [Act.put, lsa_, ls0_, ls1_, i64_w, i32_w]
     rfl
    refine one_ (i := 3) (N := some 22) #[t_,t_,t_,t_,f_,f_] rfl rfl (by kernel_rfl) (by decide) (fun K hK => ?_)
    (first | refine goes_ Tryd.func48 (by kernel_rfl) rfl #[.string y102, .int .i64 65535] (by rfl) rfl rfl (by first | rfl | (simp only [List.map_toArray, List.map_cons, List.map_nil]; first | done | rfl)) ?_ | refine RPW.goesV_ Tryd.func48 (by kernel_rfl) rfl #[.string y102, .int .i64 65535] (by rfl) rfl rfl rfl (by first | rfl | (simp only [List.map_toArray, List.map_cons, List.map_nil]; first | done | rfl)) ?_ | refine RPW.goesC_ Tryd.func48 (by kernel_rfl) rfl #[.string y102, .int .i64 65535] (by rfl) rfl rfl rfl (by first | rfl | (simp only [List.map_toArray, List.map_cons, List.map_nil]; first | done | rfl)) ?_)
    with_reducible refine (aH_.calls kj1 y102 65535 t104 _ A11.out).mono ?_
    rintro e w' ⟨rfl, ⟨nd, rfl⟩⟩
    refine ⟨_, rfl, ?_⟩
    refine hK.out _ _ trivial (fun hHeld => ?_)
    clear hK K
    refine norm_ (a' := ?_) ?_ ?_
    rotate_left
    ·show Act.put _ (some 22) _ = _
     simp only [Act.put, lsa_, ls0_, ls1_, i64_w, i32_w]
     rfl
    refine one_ (i := 4) (N := some 23) #[t_,t_,t_,t_,t_,f_] rfl rfl (by kernel_rfl) (by decide) (fun K hK => ?_)
    (first | refine goes_ Tryd.func47 (by kernel_rfl) rfl #[.int .i64 t104] (by rfl) rfl rfl (by first | rfl | (simp only [List.map_toArray, List.map_cons, List.map_nil]; first | done | rfl)) ?_ | refine RPW.goesV_ Tryd.func47 (by kernel_rfl) rfl #[.int .i64 t104] (by rfl) rfl rfl rfl (by first | rfl | (simp only [List.map_toArray, List.map_cons, List.map_nil]; first | done | rfl)) ?_ | refine RPW.goesC_ Tryd.func47 (by kernel_rfl) rfl #[.int .i64 t104] (by rfl) rfl rfl rfl (by first | rfl | (simp only [List.map_toArray, List.map_cons, List.map_nil]; first | done | rfl)) ?_)
    with_reducible refine (aY_.calls kj1 t104 t105 _ A12.out).mono ?_
    rintro e w15 ⟨rfl, hb⟩
    refine ⟨_, rfl, ?_⟩
    have n0_ := Aside0.mk (ba_ (g := gb101) (o := .cells #[.string (⟨#[]⟩ : ByteArray), .string (⟨#[]⟩ : ByteArray), .string (⟨#[]⟩ : ByteArray)] 43 (0, 0)) (kz BK101.out) hb)
    have n1_ := Aside0.mk (ak_ (by repeat (first | (with_reducible first | exact HB.out | apply bA_ | apply bN_ | apply bD_ | refine ac_ ?_ GE101.out) | exact HB.out)) hb)
    clear BK101
    clear HB
    have BK101 := n0_
    have HB := n1_
    clear n0_ n1_
    (try clear hb)
    refine hK.out _ _ trivial (fun hHeld => ?_)
    clear hK K
    refine norm_ (a' := ?_) ?_ ?_
    rotate_left
    ·show Act.put _ (some 23) _ = _
     simp only [Act.put, lsa_, ls0_, ls1_, i64_w, i32_w]
     rfl
    refine pure_ (i := 5) (N := some 24) (v := ?_) (a' := ?_) #[t_,t_,t_,t_,t_,t_] rfl rfl (by kernel_rfl) (fun _ _ _ h => h) (Or.inl ⟨by rfl, ?_⟩) ?_ ?_
    rotate_left
    ·intro w'
     go_simp
     with_reducible rfl
    rotate_left
    ·simp only [Act.put, lsa_, ls0_, ls1_, i64_w, i32_w]
     rfl
    refine done_ (by kernel_rfl) ?_
    go_upto_if 24 with (fail)
    have H := HC13.out
    clear HC13
    by_cases c16 : y103.toList = t105.toList
    rotate_left
    ·rw [if_neg c16] at H
     have c16b0 : (y103.toList == t105.toList) = false := beq_eq_false_iff_ne.mpr c16
     have c16b1 : (y103.toList != t105.toList) = true := bne_iff_ne.mpr c16
     (first | rw [c16b0] | (simp only [i64_w, i32_w]; rw [c16b0]) | (simp only [c16b1, Bool.not_true, Bool.not_false]) | (simp only [c16b0, Bool.not_true, Bool.not_false]) | skip)
     simp only [Option.some.injEq, Prod.mk.injEq] at H
     obtain ⟨rfl, rfl, rfl, rfl⟩ := H
     have hcz51_0 : w15.cell? ⟨gb101, 0, none⟩ = some (.string (⟨#[]⟩ : ByteArray)) := (ad_ BK101.out 0).trans rfl
     have hcz51_1 : w15.cell? ⟨gb101, 1, none⟩ = some (.string (⟨#[]⟩ : ByteArray)) := (ad_ BK101.out 1).trans rfl
     have hcz51_2 : w15.cell? ⟨gb101, 2, none⟩ = some (.string (⟨#[]⟩ : ByteArray)) := (ad_ BK101.out 2).trans rfl
     have hfz51_0 := ab_ BK101.out 0
     have hfz51_1 := ab_ BK101.out 1
     have hfz51_2 := ab_ BK101.out 2
     go_wp2
     refine bodyPost_ret (bF_ rfl _ _ gb101 43 #[.string (⟨#[]⟩ : ByteArray), .string (⟨#[]⟩ : ByteArray), .string (⟨#[]⟩ : ByteArray)] (0, 0) _ rfl (by (with_reducible repeat (first | refine ag_ ?_ _ | refine ai_ ?_ | refine af_ ?_ _)); refine aO_ (cs := #[.string (⟨#[]⟩ : ByteArray), .string (⟨#[]⟩ : ByteArray), .string (⟨#[]⟩ : ByteArray)]) ?_ 2 _ rfl; (with_reducible repeat (first | refine ag_ ?_ _ | refine ai_ ?_ | refine af_ ?_ _)); refine aO_ (cs := #[.string (⟨#[]⟩ : ByteArray), .string (⟨#[]⟩ : ByteArray), .string (⟨#[]⟩ : ByteArray)]) ?_ 1 _ rfl; (with_reducible repeat (first | refine ag_ ?_ _ | refine ai_ ?_ | refine af_ ?_ _)); refine aO_ (cs := #[.string (⟨#[]⟩ : ByteArray), .string (⟨#[]⟩ : ByteArray), .string (⟨#[]⟩ : ByteArray)]) ?_ 0 _ rfl; (with_reducible repeat (first | refine ag_ ?_ _ | refine ai_ ?_ | refine af_ ?_ _)); exact BK101.out) Tryd.underlying43 rfl (by kernel_rfl)) rfl ?_
     exact ⟨by first | rfl | (simp [*, as_, au_] <;> rfl), by repeat (first | (with_reducible first | exact HB.out | apply bA_ | apply bN_ | apply bD_ | refine ac_ ?_ GE101.out) | exact HB.out)⟩
    rw [if_pos c16] at H
    have c16b0 : (y103.toList == t105.toList) = true := beq_iff_eq.mpr c16
    have c16b1 : (y103.toList != t105.toList) = false := bne_eq_false_iff_eq.mpr c16
    clear c16
    (first | rw [c16b0] | (simp only [i64_w, i32_w]; rw [c16b0]) | (simp only [c16b1, Bool.not_true, Bool.not_false]) | (simp only [c16b0, Bool.not_true, Bool.not_false]) | skip)
    have HC17 := Aside0.mk H
    clear H
    go_upto_block 0 with (fail)
    go_cut [5] (fun v5 wc => ∃ (kq : Nat) (x5_16 : Int), v5 = .int .i64 x5_16 ∧ Aside0 (ae_.j2 kq y102 x5_16 = some (r1, r2, r3, r4)) ∧ Aside0 (kq ≤ kj1) ∧ Aside0 (wc.heap[gb101]? = some (.cells #[.string (⟨#[]⟩ : ByteArray), .string (⟨#[]⟩ : ByteArray), .string (⟨#[]⟩ : ByteArray)] 43 (0, 0))) ∧ Aside0 (Below w.heap.size w wc))
    case first =>
     have H := HC17.out
     clear HC17
     have H' := Aside0.mk H
     clear H
     go_wp2
     (try simp only [Act.put, lsa_, ls0_, ls1_])
     go_loopg [5] kj1 (fun kq v5 w' => ∃ (x5_2 : Int), v5 = .int .i64 x5_2 ∧ Aside0 (ae_.l0 kq y102 x5_2 = some (r1, r2, r3, r4)) ∧ Aside0 (kq ≤ kj1) ∧ Aside0 (w'.heap[gb101]? = some (.cells #[.string (⟨#[]⟩ : ByteArray), .string (⟨#[]⟩ : ByteArray), .string (⟨#[]⟩ : ByteArray)] 43 (0, 0))) ∧ Aside0 (Below w.heap.size w w'))
     case atStart => exact ⟨(0), (by first | rfl | (simp; done) | (simp [*]; done)), H', ⟨Nat.le_refl _⟩, ⟨by (with_reducible repeat (first | refine ag_ ?_ _ | refine ai_ ?_ | refine af_ ?_ _)); exact BK101.out⟩, ⟨by repeat (first | (with_reducible first | exact HB.out | apply bA_ | apply bN_ | apply bD_ | refine ac_ ?_ GE101.out) | exact HB.out)⟩⟩
     case round =>
      clear H'
      obtain ⟨x5_2, rfl, HA, HK2, BK101, HB⟩ := hrel
      cases gk with
      | zero => exact absurd HA.out (by simp [ae_.l0])
      | succ k2 =>
       have H := HA.out
       clear HA
       simp only [ae_.l0] at H
       by_cases c18 : x5_2 < (y102.size : Int)
       rotate_left
       ·rw [if_neg c18] at H
        have c18b0 : decide (x5_2 < (y102.size : Int)) = false := decide_eq_false c18
        clear c18
        (first | rw [c18b0] | (simp only [i64_w, i32_w]; rw [c18b0]) | (simp only [c18b1, Bool.not_true, Bool.not_false]) | (simp only [c18b0, Bool.not_true, Bool.not_false]) | skip)
        have H' := Aside0.mk H
        clear H
        go_wp2
        go_meet
        case rel => exact ⟨_, (x5_2), (by first | rfl | (simp; done) | (simp [*]; done)), H', ⟨by have := HJ1.out; have := HK2.out; first | omega | exact Nat.le_refl _⟩, ⟨by (with_reducible repeat (first | refine ag_ ?_ _ | refine ai_ ?_ | refine af_ ?_ _)); exact BK101.out⟩, ⟨by repeat (first | (with_reducible first | exact HB.out | apply bA_ | apply bN_ | apply bD_ | refine ac_ ?_ GE101.out) | exact HB.out)⟩⟩
       rw [if_pos c18] at H
       have c18b0 : decide (x5_2 < (y102.size : Int)) = true := decide_eq_true c18
       clear c18
       (first | rw [c18b0] | (simp only [i64_w, i32_w]; rw [c18b0]) | (simp only [c18b1, Bool.not_true, Bool.not_false]) | (simp only [c18b0, Bool.not_true, Bool.not_false]) | skip)
       by_cases c19 : 0 ≤ x5_2
       rotate_left
       ·rw [if_neg c19] at H
        exact absurd H (by simp)
       rw [if_pos c19] at H
       have c19b0 : decide (0 ≤ x5_2) = true := decide_eq_true c19
       clear c19
       by_cases c21 : (bt y102 x5_2) = 32
       rotate_left
       ·rw [if_neg c21] at H
        have c21b0 : ((bt y102 x5_2) == 32) = false := beq_eq_false_iff_ne.mpr c21
        have c21b1 : ((bt y102 x5_2) != 32) = true := bne_iff_ne.mpr c21
        have H' := Aside0.mk H
        clear H
        have p20 : 0 ≤ (x5_2 : Int) := of_decide_eq_true (by assumption)
        have q20 : x5_2 < (y102.size : Int) := of_decide_eq_true (by assumption)
        have hx20 := bt_at y102 x5_2
        replace p20 := eq_true p20
        replace q20 := eq_true q20
        go_wp2
        go_roundg k2
        case measure => have := HJ1.out; have := HK2.out; omega
        case rel => exact ⟨(wrap64 (x5_2 + 1)), (by first | rfl | (simp; done) | (simp [*]; done)), H', ⟨by have := HJ1.out; have := HK2.out; omega⟩, ⟨by (with_reducible repeat (first | refine ag_ ?_ _ | refine ai_ ?_ | refine af_ ?_ _)); exact BK101.out⟩, ⟨by repeat (first | (with_reducible first | exact HB.out | apply bA_ | apply bN_ | apply bD_ | refine ac_ ?_ GE101.out) | exact HB.out)⟩⟩
       rw [if_pos c21] at H
       have c21b0 : ((bt y102 x5_2) == 32) = true := beq_iff_eq.mpr c21
       have c21b1 : ((bt y102 x5_2) != 32) = false := bne_eq_false_iff_eq.mpr c21
       clear c21
       have H' := Aside0.mk H
       clear H
       have p20 : 0 ≤ (x5_2 : Int) := of_decide_eq_true (by assumption)
       have q20 : x5_2 < (y102.size : Int) := of_decide_eq_true (by assumption)
       have hx20 := bt_at y102 x5_2
       replace p20 := eq_true p20
       replace q20 := eq_true q20
       go_wp2
       go_meet
       case rel => exact ⟨_, (x5_2), (by first | rfl | (simp; done) | (simp [*]; done)), H', ⟨by have := HJ1.out; have := HK2.out; first | omega | exact Nat.le_refl _⟩, ⟨by (with_reducible repeat (first | refine ag_ ?_ _ | refine ai_ ?_ | refine af_ ?_ _)); exact BK101.out⟩, ⟨by repeat (first | (with_reducible first | exact HB.out | apply bA_ | apply bN_ | apply bD_ | refine ac_ ?_ GE101.out) | exact HB.out)⟩⟩
    case rest =>
     clear HC17
     obtain ⟨kq, x5_16, rfl, HA, HJ16, BK101, HB⟩ := hcut
     cases kq with
     | zero => exact absurd HA.out (by simp [ae_.j2])
     | succ kj16 =>
      have H := HA.out
      clear HA
      simp only [ae_.j2] at H
      have HC22 := Aside0.mk H
      clear H
      go_upto_block 2 with (fail)
      go_cut [6] (fun v6 wc => ∃ (kq : Nat) (x6_21 : Int), v6 = .int .i64 x6_21 ∧ Aside0 (ae_.j4 kq y102 x5_16 x6_21 = some (r1, r2, r3, r4)) ∧ Aside0 (kq ≤ kj16) ∧ Aside0 (wc.heap[gb101]? = some (.cells #[.string (⟨#[]⟩ : ByteArray), .string (⟨#[]⟩ : ByteArray), .string (⟨#[]⟩ : ByteArray)] 43 (0, 0))) ∧ Aside0 (Below w.heap.size w wc))
      case first =>
       have H := HC22.out
       clear HC22
       have H' := Aside0.mk H
       clear H
       go_wp2
       (try simp only [Act.put, lsa_, ls0_, ls1_])
       go_loopg [6] kj16 (fun kq v6 w' => ∃ (x6_3 : Int), v6 = .int .i64 x6_3 ∧ Aside0 (ae_.l1 kq y102 x5_16 x6_3 = some (r1, r2, r3, r4)) ∧ Aside0 (kq ≤ kj16) ∧ Aside0 (w'.heap[gb101]? = some (.cells #[.string (⟨#[]⟩ : ByteArray), .string (⟨#[]⟩ : ByteArray), .string (⟨#[]⟩ : ByteArray)] 43 (0, 0))) ∧ Aside0 (Below w.heap.size w w'))
       case atStart => exact ⟨(wrap64 (x5_16 + 1)), (by first | rfl | (simp; done) | (simp [*]; done)), H', ⟨Nat.le_refl _⟩, ⟨by (with_reducible repeat (first | refine ag_ ?_ _ | refine ai_ ?_ | refine af_ ?_ _)); exact BK101.out⟩, ⟨by repeat (first | (with_reducible first | exact HB.out | apply bA_ | apply bN_ | apply bD_ | refine ac_ ?_ GE101.out) | exact HB.out)⟩⟩
       case round =>
        clear H'
        obtain ⟨x6_3, rfl, HA, HK3, BK101, HB⟩ := hrel
        cases gk with
        | zero => exact absurd HA.out (by simp [ae_.l1])
        | succ k3 =>
         have H := HA.out
         clear HA
         simp only [ae_.l1] at H
         by_cases c23 : x6_3 < (y102.size : Int)
         rotate_left
         ·rw [if_neg c23] at H
          have c23b0 : decide (x6_3 < (y102.size : Int)) = false := decide_eq_false c23
          clear c23
          (first | rw [c23b0] | (simp only [i64_w, i32_w]; rw [c23b0]) | (simp only [c23b1, Bool.not_true, Bool.not_false]) | (simp only [c23b0, Bool.not_true, Bool.not_false]) | skip)
          have H' := Aside0.mk H
          clear H
          go_wp2
          go_meet
          case rel => exact ⟨_, (x6_3), (by first | rfl | (simp; done) | (simp [*]; done)), H', ⟨by have := HJ1.out; have := HJ16.out; have := HK3.out; first | omega | exact Nat.le_refl _⟩, ⟨by (with_reducible repeat (first | refine ag_ ?_ _ | refine ai_ ?_ | refine af_ ?_ _)); exact BK101.out⟩, ⟨by repeat (first | (with_reducible first | exact HB.out | apply bA_ | apply bN_ | apply bD_ | refine ac_ ?_ GE101.out) | exact HB.out)⟩⟩
         rw [if_pos c23] at H
         have c23b0 : decide (x6_3 < (y102.size : Int)) = true := decide_eq_true c23
         clear c23
         (first | rw [c23b0] | (simp only [i64_w, i32_w]; rw [c23b0]) | (simp only [c23b1, Bool.not_true, Bool.not_false]) | (simp only [c23b0, Bool.not_true, Bool.not_false]) | skip)
         by_cases c24 : 0 ≤ x6_3
         rotate_left
         ·rw [if_neg c24] at H
          exact absurd H (by simp)
         rw [if_pos c24] at H
         have c24b0 : decide (0 ≤ x6_3) = true := decide_eq_true c24
         clear c24
         by_cases c26 : (bt y102 x6_3) = 32
         rotate_left
         ·rw [if_neg c26] at H
          have c26b0 : ((bt y102 x6_3) == 32) = false := beq_eq_false_iff_ne.mpr c26
          have c26b1 : ((bt y102 x6_3) != 32) = true := bne_iff_ne.mpr c26
          have H' := Aside0.mk H
          clear H
          have p25 : 0 ≤ (x6_3 : Int) := of_decide_eq_true (by assumption)
          have q25 : x6_3 < (y102.size : Int) := of_decide_eq_true (by assumption)
          have hx25 := bt_at y102 x6_3
          replace p25 := eq_true p25
          replace q25 := eq_true q25
          go_wp2
          go_roundg k3
          case measure => have := HJ1.out; have := HJ16.out; have := HK3.out; omega
          case rel => exact ⟨(wrap64 (x6_3 + 1)), (by first | rfl | (simp; done) | (simp [*]; done)), H', ⟨by have := HJ1.out; have := HJ16.out; have := HK3.out; omega⟩, ⟨by (with_reducible repeat (first | refine ag_ ?_ _ | refine ai_ ?_ | refine af_ ?_ _)); exact BK101.out⟩, ⟨by repeat (first | (with_reducible first | exact HB.out | apply bA_ | apply bN_ | apply bD_ | refine ac_ ?_ GE101.out) | exact HB.out)⟩⟩
         rw [if_pos c26] at H
         have c26b0 : ((bt y102 x6_3) == 32) = true := beq_iff_eq.mpr c26
         have c26b1 : ((bt y102 x6_3) != 32) = false := bne_eq_false_iff_eq.mpr c26
         clear c26
         have H' := Aside0.mk H
         clear H
         have p25 : 0 ≤ (x6_3 : Int) := of_decide_eq_true (by assumption)
         have q25 : x6_3 < (y102.size : Int) := of_decide_eq_true (by assumption)
         have hx25 := bt_at y102 x6_3
         replace p25 := eq_true p25
         replace q25 := eq_true q25
         go_wp2
         go_meet
         case rel => exact ⟨_, (x6_3), (by first | rfl | (simp; done) | (simp [*]; done)), H', ⟨by have := HJ1.out; have := HJ16.out; have := HK3.out; first | omega | exact Nat.le_refl _⟩, ⟨by (with_reducible repeat (first | refine ag_ ?_ _ | refine ai_ ?_ | refine af_ ?_ _)); exact BK101.out⟩, ⟨by repeat (first | (with_reducible first | exact HB.out | apply bA_ | apply bN_ | apply bD_ | refine ac_ ?_ GE101.out) | exact HB.out)⟩⟩
      case rest =>
       clear HC22
       obtain ⟨kq, x6_21, rfl, HA, HJ21, BK101, HB⟩ := hcut
       cases kq with
       | zero => exact absurd HA.out (by simp [ae_.j4])
       | succ kj21 =>
        have H := HA.out
        clear HA
        simp only [ae_.j4] at H
        by_cases c27 : x6_21 ≥ (y102.size : Int)
        rotate_left
        ·rw [if_neg c27] at H
         have c27b0 : decide ((y102.size : Int) ≤ x6_21) = false := decide_eq_false c27
         clear c27
         by_cases c29 : 0 ≤ x5_16
         rotate_left
         ·rw [if_neg c29] at H
          exact absurd H (by simp)
         rw [if_pos c29] at H
         have c29b0 := eq_true c29
         have c29b1 : decide (0 ≤ x5_16) = true := decide_eq_true c29
         clear c29
         by_cases c30 : x5_16 ≤ (y102.size : Int)
         rotate_left
         ·rw [if_neg c30] at H
          exact absurd H (by simp)
         rw [if_pos c30] at H
         have c30b0 := eq_true c30
         have c30b1 : decide (x5_16 ≤ (y102.size : Int)) = true := decide_eq_true c30
         clear c30
         obtain ⟨y106, hy106⟩ : ∃ y_ : ByteArray, y_ = (y102.extract 0 (x5_16 : Int).toNat) := ⟨_, rfl⟩
         replace H : (if 0 ≤ (wrap64 (x5_16 + 1)) then (if (wrap64 (x5_16 + 1)) ≤ x6_21 then (if x6_21 ≤ (y102.size : Int) then ((some (y102.extract ((wrap64 (x5_16 + 1)) : Int).toNat (x6_21 : Int).toNat : ByteArray)).bind fun y107 => (if 0 ≤ (wrap64 (x6_21 + 1)) then (if (wrap64 (x6_21 + 1)) ≤ (y102.size : Int) then ((some (y102.extract ((wrap64 (x6_21 + 1)) : Int).toNat y102.size : ByteArray)).bind fun y108 => ((aC_.f kj21 [(⟨y106, y107, y108⟩ : S43)]).bind fun t110 => (if t110 = true then (some (y106, y107, y108, 0)) else (some ((⟨#[]⟩ : ByteArray), (⟨#[]⟩ : ByteArray), (⟨#[]⟩ : ByteArray), 9))))) else (none)) else (none))) else (none)) else (none)) else (none)) = some (r1, r2, r3, r4) := by first | (rw [hy106]; with_reducible exact H) | (have H2_ := (Option.bind_some _ _).symm.trans H; rw [hy106]; with_reducible exact H2_) | (have H2_ := (Option.bind_some _ _).symm.trans H; with_reducible exact H2_) | with_reducible exact H | (rw [hy106]; exact H) | exact H
         have Ny106 := Aside0.mk hy106
         clear hy106
         have Sy106 := Ny106.out.symm
         obtain ⟨ji31, hji31⟩ : ∃ j_ : Int, (wrap64 (x5_16 + 1)) = j_ := ⟨_, rfl⟩
         replace H : (if 0 ≤ (ji31) then (if (ji31) ≤ x6_21 then (if x6_21 ≤ (y102.size : Int) then ((some (y102.extract ((ji31) : Int).toNat (x6_21 : Int).toNat : ByteArray)).bind fun y107 => (if 0 ≤ (wrap64 (x6_21 + 1)) then (if (wrap64 (x6_21 + 1)) ≤ (y102.size : Int) then ((some (y102.extract ((wrap64 (x6_21 + 1)) : Int).toNat y102.size : ByteArray)).bind fun y108 => ((aC_.f kj21 [(⟨y106, y107, y108⟩ : S43)]).bind fun t110 => (if t110 = true then (some (y106, y107, y108, 0)) else (some ((⟨#[]⟩ : ByteArray), (⟨#[]⟩ : ByteArray), (⟨#[]⟩ : ByteArray), 9))))) else (none)) else (none))) else (none)) else (none)) else (none)) = some (r1, r2, r3, r4) := by first | (rw [hji31] at H; exact H) | (simp only [hji31] at H ⊢; exact H)
         have hji31w : (IntKind.i64.wrap (x5_16 + 1)) = ji31 := (i64_w _).trans hji31
         by_cases c32 : 0 ≤ (ji31)
         rotate_left
         ·rw [if_neg c32] at H
          exact absurd H (by simp)
         rw [if_pos c32] at H
         have c32b0 := eq_true c32
         have c32b1 : decide (0 ≤ (ji31)) = true := decide_eq_true c32
         clear c32
         by_cases c33 : (ji31) ≤ x6_21
         rotate_left
         ·rw [if_neg c33] at H
          exact absurd H (by simp)
         rw [if_pos c33] at H
         have c33b0 := eq_true c33
         have c33b1 : decide ((ji31) ≤ x6_21) = true := decide_eq_true c33
         clear c33
         by_cases c34 : x6_21 ≤ (y102.size : Int)
         rotate_left
         ·rw [if_neg c34] at H
          exact absurd H (by simp)
         rw [if_pos c34] at H
         have c34b0 := eq_true c34
         have c34b1 : decide (x6_21 ≤ (y102.size : Int)) = true := decide_eq_true c34
         clear c34
         obtain ⟨y107, hy107⟩ : ∃ y_ : ByteArray, y_ = (y102.extract ((ji31) : Int).toNat (x6_21 : Int).toNat) := ⟨_, rfl⟩
         replace H : (if 0 ≤ (wrap64 (x6_21 + 1)) then (if (wrap64 (x6_21 + 1)) ≤ (y102.size : Int) then ((some (y102.extract ((wrap64 (x6_21 + 1)) : Int).toNat y102.size : ByteArray)).bind fun y108 => ((aC_.f kj21 [(⟨y106, y107, y108⟩ : S43)]).bind fun t110 => (if t110 = true then (some (y106, y107, y108, 0)) else (some ((⟨#[]⟩ : ByteArray), (⟨#[]⟩ : ByteArray), (⟨#[]⟩ : ByteArray), 9))))) else (none)) else (none)) = some (r1, r2, r3, r4) := by first | (rw [hy107]; with_reducible exact H) | (have H2_ := (Option.bind_some _ _).symm.trans H; rw [hy107]; with_reducible exact H2_) | (have H2_ := (Option.bind_some _ _).symm.trans H; with_reducible exact H2_) | with_reducible exact H | (rw [hy107]; exact H) | exact H
         have Ny107 := Aside0.mk hy107
         clear hy107
         have Sy107 := Ny107.out.symm
         obtain ⟨ji35, hji35⟩ : ∃ j_ : Int, (wrap64 (x6_21 + 1)) = j_ := ⟨_, rfl⟩
         replace H : (if 0 ≤ (ji35) then (if (ji35) ≤ (y102.size : Int) then ((some (y102.extract ((ji35) : Int).toNat y102.size : ByteArray)).bind fun y108 => ((aC_.f kj21 [(⟨y106, y107, y108⟩ : S43)]).bind fun t110 => (if t110 = true then (some (y106, y107, y108, 0)) else (some ((⟨#[]⟩ : ByteArray), (⟨#[]⟩ : ByteArray), (⟨#[]⟩ : ByteArray), 9))))) else (none)) else (none)) = some (r1, r2, r3, r4) := by first | (rw [hji35] at H; exact H) | (simp only [hji35] at H ⊢; exact H)
         have hji35w : (IntKind.i64.wrap (x6_21 + 1)) = ji35 := (i64_w _).trans hji35
         by_cases c36 : 0 ≤ (ji35)
         rotate_left
         ·rw [if_neg c36] at H
          exact absurd H (by simp)
         rw [if_pos c36] at H
         have c36b0 := eq_true c36
         have c36b1 : decide (0 ≤ (ji35)) = true := decide_eq_true c36
         clear c36
         by_cases c37 : (ji35) ≤ (y102.size : Int)
         rotate_left
         ·rw [if_neg c37] at H
          exact absurd H (by simp)
         rw [if_pos c37] at H
         have c37b0 := eq_true c37
         have c37b1 : decide ((ji35) ≤ (y102.size : Int)) = true := decide_eq_true c37
         clear c37
         obtain ⟨y108, hy108⟩ : ∃ y_ : ByteArray, y_ = (y102.extract ((ji35) : Int).toNat y102.size) := ⟨_, rfl⟩
         replace H : ((aC_.f kj21 [(⟨y106, y107, y108⟩ : S43)]).bind fun t110 => (if t110 = true then (some (y106, y107, y108, 0)) else (some ((⟨#[]⟩ : ByteArray), (⟨#[]⟩ : ByteArray), (⟨#[]⟩ : ByteArray), 9)))) = some (r1, r2, r3, r4) := by first | (rw [hy108]; with_reducible exact H) | (have H2_ := (Option.bind_some _ _).symm.trans H; rw [hy108]; with_reducible exact H2_) | (have H2_ := (Option.bind_some _ _).symm.trans H; with_reducible exact H2_) | with_reducible exact H | (rw [hy108]; exact H) | exact H
         have Ny108 := Aside0.mk hy108
         clear hy108
         have Sy108 := Ny108.out.symm
         replace H := Option.bind_eq_some_iff.mp H
         obtain ⟨t110, A380, H⟩ := H
         (try dsimp only at H)
         have A38 := Aside0.mk A380
         clear A380
         have HC39 := Aside0.mk H
         clear H
         try go_wp2
         (try (rw [bw_ wc]; generalize hq_ : World.drewN wc _ = wc; have n0_ : Aside0 (wc.heap[gb101]? = some (.cells #[.string (⟨#[]⟩ : ByteArray), .string (⟨#[]⟩ : ByteArray), .string (⟨#[]⟩ : ByteArray)] 43 (0, 0))) := ⟨by rw [← hq_]; exact (kz BK101.out)⟩; have n1_ : Aside0 (Below w.heap.size w wc) := ⟨by rw [← hq_]; exact (by repeat (first | (with_reducible first | exact HB.out | apply bA_ | apply bN_ | apply bD_ | refine ac_ ?_ GE101.out) | exact HB.out))⟩; clear BK101 HB hq_; have BK101 := n0_; have HB := n1_; clear n0_ n1_))
         have n0_ := Aside0.mk (ai_ BK101.out)
         have n1_ := Aside0.mk (bD_ HB.out)
         clear BK101
         clear HB
         have BK101 := n0_
         have HB := n1_
         clear n0_ n1_
         refine start_ (n := 15) (S := fun w' => True) (ds := []) #[f_,f_,f_,f_,f_,f_,f_,f_,f_,f_,f_,f_,f_,f_,f_] (by kernel_rfl) rfl rfl trivial (fun hHeld => ?_); refine bE_ ae_.tab14 ae_.bits14 (fun HT_ HW_ => ?_)
         generalize wc.drew = w40 at BK101 HB hHeld ⊢
         refine pure_ (i := 0) (N := some 57) (v := ?_) (a' := ?_) #[t_,f_,f_,f_,f_,f_,f_,f_,f_,f_,f_,f_,f_,f_,f_] rfl rfl (aw_ HT_.out (by kernel_rfl)) (fun _ _ _ h => h) (Or.inl ⟨by rfl, ?_⟩) ?_ ?_
         rotate_left
         ·intro w'
          go_simp
          with_reducible rfl
         rotate_left
         ·simp only [Act.put, lsa_, ls0_, ls1_, i64_w, i32_w]
          rfl
         refine pure_ (i := 1) (N := some 58) (v := ?_) (a' := ?_) #[t_,t_,f_,f_,f_,f_,f_,f_,f_,f_,f_,f_,f_,f_,f_] rfl rfl (aw_ HT_.out (by kernel_rfl)) (fun _ _ _ h => h) (Or.inl ⟨by rfl, ?_⟩) ?_ ?_
         rotate_left
         ·intro w'
          go_simp
          with_reducible rfl
         rotate_left
         ·simp only [Act.put, lsa_, ls0_, ls1_, i64_w, i32_w]
          rfl
         refine pure_ (i := 2) (N := some 59) (v := ?_) (a' := ?_) #[t_,t_,t_,f_,f_,f_,f_,f_,f_,f_,f_,f_,f_,f_,f_] rfl rfl (aw_ HT_.out (by kernel_rfl)) (fun _ _ _ h => h) (Or.inl ⟨by rfl, ?_⟩) ?_ ?_
         rotate_left
         ·intro w'
          go_simp
          with_reducible rfl
         rotate_left
         ·simp only [Act.put, lsa_, ls0_, ls1_, i64_w, i32_w]
          rfl
         refine pure_ (i := 3) (N := some 60) (v := ?_) (a' := ?_) #[t_,t_,t_,t_,f_,f_,f_,f_,f_,f_,f_,f_,f_,f_,f_] rfl rfl (aw_ HT_.out (by kernel_rfl)) (fun _ _ _ h => h) (Or.inl ⟨by rfl, ?_⟩) ?_ ?_
         rotate_left
         ·intro w'
          go_simp
          with_reducible rfl
         rotate_left
         ·simp only [Act.put, lsa_, ls0_, ls1_, i64_w, i32_w]
          rfl
         refine pure_ (i := 4) (N := some 61) (v := ?_) (a' := ?_) #[t_,t_,t_,t_,t_,f_,f_,f_,f_,f_,f_,f_,f_,f_,f_] rfl rfl (aw_ HT_.out (by kernel_rfl)) (fun _ _ _ h => h) (Or.inl ⟨by rfl, ?_⟩) ?_ ?_
         rotate_left
         ·intro w'
          go_simp
          with_reducible rfl
         rotate_left
         ·simp only [Act.put, lsa_, ls0_, ls1_, i64_w, i32_w]
          rfl
         refine pure_ (i := 5) (N := some 62) (v := ?_) (a' := ?_) #[t_,t_,t_,t_,t_,t_,f_,f_,f_,f_,f_,f_,f_,f_,f_] rfl rfl (aw_ HT_.out (by kernel_rfl)) (fun _ _ _ h => h) (Or.inl ⟨by rfl, ?_⟩) ?_ ?_
         rotate_left
         ·intro w'
          go_simp
          with_reducible rfl
         rotate_left
         ·simp only [Act.put, lsa_, ls0_, ls1_, i64_w, i32_w]
          rfl
         refine pure_ (i := 6) (N := some 63) (v := ?_) (a' := ?_) #[t_,t_,t_,t_,t_,t_,t_,f_,f_,f_,f_,f_,f_,f_,f_] rfl rfl (aw_ HT_.out (by kernel_rfl)) (fun _ _ _ h => h) (Or.inl ⟨by rfl, ?_⟩) ?_ ?_
         rotate_left
         ·intro w'
          go_simp
          with_reducible rfl
         rotate_left
         ·simp only [Act.put, lsa_, ls0_, ls1_, i64_w, i32_w]
          rfl
         refine pure_ (i := 7) (N := some 64) (v := ?_) (a' := ?_) #[t_,t_,t_,t_,t_,t_,t_,t_,f_,f_,f_,f_,f_,f_,f_] rfl rfl (aw_ HT_.out (by kernel_rfl)) (fun _ _ _ h => h) (Or.inl ⟨by rfl, ?_⟩) ?_ ?_
         rotate_left
         ·intro w'
          go_simp
          with_reducible rfl
         rotate_left
         ·simp only [Act.put, lsa_, ls0_, ls1_, i64_w, i32_w]
          rfl
         refine pure_ (i := 8) (N := some 65) (v := ?_) (a' := ?_) #[t_,t_,t_,t_,t_,t_,t_,t_,t_,f_,f_,f_,f_,f_,f_] rfl rfl (aw_ HT_.out (by kernel_rfl)) (fun _ _ _ h => h) (Or.inl ⟨by rfl, ?_⟩) ?_ ?_
         rotate_left
         ·intro w'
          go_simp
          with_reducible rfl
         rotate_left
         ·simp only [Act.put, lsa_, ls0_, ls1_, i64_w, i32_w]
          rfl
         refine pure_ (i := 9) (N := some 66) (v := ?_) (a' := ?_) #[t_,t_,t_,t_,t_,t_,t_,t_,t_,t_,f_,f_,f_,f_,f_] rfl rfl (aw_ HT_.out (by kernel_rfl)) (fun _ _ _ h => h) (Or.inl ⟨by rfl, ?_⟩) ?_ ?_
         rotate_left
         ·intro w'
          go_simp
          with_reducible rfl
         rotate_left
         ·simp only [Act.put, lsa_, ls0_, ls1_, i64_w, i32_w]
          rfl
         refine pure_ (i := 10) (N := some 67) (v := ?_) (a' := ?_) #[t_,t_,t_,t_,t_,t_,t_,t_,t_,t_,t_,f_,f_,f_,f_] rfl rfl (aw_ HT_.out (by kernel_rfl)) (fun _ _ _ h => h) (Or.inl ⟨by rfl, ?_⟩) ?_ ?_
         rotate_left
         ·intro w'
          go_simp
          with_reducible rfl
         rotate_left
         ·simp only [Act.put, lsa_, ls0_, ls1_, i64_w, i32_w]
          rfl
         refine pure_ (i := 11) (N := some 68) (v := ?_) (a' := ?_) #[t_,t_,t_,t_,t_,t_,t_,t_,t_,t_,t_,t_,f_,f_,f_] rfl rfl (aw_ HT_.out (by kernel_rfl)) (fun _ _ _ h => h) (Or.inl ⟨by rfl, ?_⟩) ?_ ?_
         rotate_left
         ·intro w'
          go_simp
          with_reducible rfl
         rotate_left
         ·simp only [Act.put, lsa_, ls0_, ls1_, i64_w, i32_w]
          rfl
         refine pure_ (i := 12) (N := some 69) (v := ?_) (a' := ?_) #[t_,t_,t_,t_,t_,t_,t_,t_,t_,t_,t_,t_,t_,f_,f_] rfl rfl (aw_ HT_.out (by kernel_rfl)) (fun _ _ _ h => h) (Or.inl ⟨by rfl, ?_⟩) ?_ ?_
         rotate_left
         ·intro w'
          go_simp
          with_reducible rfl
         rotate_left
         ·simp only [Act.put, lsa_, ls0_, ls1_, i64_w, i32_w]
          rfl
         refine one_ (i := 13) (N := some 7) #[t_,t_,t_,t_,t_,t_,t_,t_,t_,t_,t_,t_,t_,t_,f_] rfl rfl (one_of HT_.out (by kernel_rfl)) (by decide) (fun K hK => ?_)
         refine box_step ?hg (N := 7) ?hd (cs := #[.string (⟨#[]⟩ : ByteArray), .string (⟨#[]⟩ : ByteArray), .string (⟨#[]⟩ : ByteArray)]) (t := 43) ?hr ?_; (case hd => rfl); (case hg => rfl); (case hr => (go_simp; try rfl))
         intro gb109 hg w41 hbox hb
         have n0_ := Aside0.mk (ba_ (g := gb101) (o := .cells #[.string (⟨#[]⟩ : ByteArray), .string (⟨#[]⟩ : ByteArray), .string (⟨#[]⟩ : ByteArray)] 43 (0, 0)) (kz BK101.out) hb)
         have n1_ := Aside0.mk (ak_ (by repeat (first | (with_reducible first | exact HB.out | apply bA_ | apply bN_ | apply bD_ | refine ac_ ?_ GE101.out) | exact HB.out)) hb)
         have n2_ := Aside0.mk (hbox)
         have n3_ := Aside0.mk ((by rw [hg]; exact (ah_ (by repeat (first | (with_reducible first | exact HB.out | apply bA_ | apply bN_ | apply bD_ | refine ac_ ?_ GE101.out) | exact HB.out))) : w.heap.size ≤ gb109))
         have n4_ := Aside0.mk ((by rw [hg]; exact (ah_ (by repeat (first | (with_reducible first | exact HB.out | apply bA_ | apply bN_ | apply bD_ | refine ac_ ?_ GE101.out) | exact HB.out))) : w.heap.size ≤ gb109))
         have n5_ := Aside0.mk ((by rw [hg]; exact Nat.ne_of_lt (blk_lt (g := gb101) (o := .cells #[.string (⟨#[]⟩ : ByteArray), .string (⟨#[]⟩ : ByteArray), .string (⟨#[]⟩ : ByteArray)] 43 (0, 0)) (kz BK101.out)) : gb101 ≠ gb109))
         have n6_ := Aside0.mk ((by rw [hg]; exact Nat.ne_of_gt (blk_lt (g := gb101) (o := .cells #[.string (⟨#[]⟩ : ByteArray), .string (⟨#[]⟩ : ByteArray), .string (⟨#[]⟩ : ByteArray)] 43 (0, 0)) (kz BK101.out)) : gb109 ≠ gb101))
         clear BK101
         clear HB
         have BK101 := n0_
         have HB := n1_
         have BK109 := n2_
         have GW109 := n3_
         have GE109 := n4_
         have NB101_109 := n5_
         have NB109_101 := n6_
         clear n0_ n1_ n2_ n3_ n4_ n5_ n6_
         clear hb hbox hg
         refine hK.out _ _ trivial (fun hHeld => ?_)
         clear hK K
         refine norm_ (a' := ?_) ?_ ?_
         rotate_left
         ·show Act.put _ (some 7) _ = _
          simp only [Act.put, lsa_, ls0_, ls1_, i64_w, i32_w]
          rfl
         refine one_ (i := 14) (N := none) #[t_,t_,t_,t_,t_,t_,t_,t_,t_,t_,t_,t_,t_,t_,t_] rfl rfl (one_of HT_.out (by kernel_rfl)) (by decide) (fun K hK => ?_)
         have hs42 : w41.cell? ⟨gb109, 0, none⟩ = some (.string (⟨#[]⟩ : ByteArray)) := (ad_ BK109.out 0).trans rfl
         have hfs42 := ab_ BK109.out 0
         have hns42_0 := NB101_109.out
         have hms42_0 := NB109_101.out
         have hs43 : w41.cell? ⟨gb109, 1, none⟩ = some (.string (⟨#[]⟩ : ByteArray)) := (ad_ BK109.out 1).trans rfl
         have hfs43 := ab_ BK109.out 1
         have hns43_0 := NB101_109.out
         have hms43_0 := NB109_101.out
         have hs44 : w41.cell? ⟨gb109, 2, none⟩ = some (.string (⟨#[]⟩ : ByteArray)) := (ad_ BK109.out 2).trans rfl
         have hfs44 := ab_ BK109.out 2
         have hns44_0 := NB101_109.out
         have hms44_0 := NB109_101.out
         refine skip_ (w1 := ?_) (by rfl) rfl ?_ ?_
         rotate_left
         ·go_simp
          rfl
         refine hK.out _ _ trivial (fun hHeld => ?_)
         clear hK K
         refine done_ (bZ_ HT_.out (by kernel_rfl)) ?_
         go_upto_if 71 with (first | ((with_reducible refine az_ (f := 49) rfl ?_); refine bn_ (some 70) rfl rfl Tryd.func49 (by kernel_rfl) rfl #[.pointer (some (Addr.add ⟨gb109, 0, none⟩ 0))] rfl (by first | rfl | (simp only [List.map_toArray, List.map_cons, List.map_nil]; first | done | rfl)) ?_; (with_reducible refine (aC_.calls kj21 _ [(⟨y106, y107, y108⟩ : S43)] t110 _ ?side1 A38.out).mono ?_); (case side1 => exact (RPW.C_blk (cs := [.string y106, .string y107, .string y108]) (t := 43) (g := gb109) (by (with_reducible repeat (first | refine ag_ ?_ _ | refine ai_ ?_ | refine af_ ?_ _)); refine aO_ (cs := #[.string y106, .string y107, .string (⟨#[]⟩ : ByteArray)]) ?_ 2 _ rfl; (with_reducible repeat (first | refine ag_ ?_ _ | refine ai_ ?_ | refine af_ ?_ _)); refine aO_ (cs := #[.string y106, .string (⟨#[]⟩ : ByteArray), .string (⟨#[]⟩ : ByteArray)]) ?_ 1 _ rfl; (with_reducible repeat (first | refine ag_ ?_ _ | refine ai_ ?_ | refine af_ ?_ _)); refine aO_ (cs := #[.string (⟨#[]⟩ : ByteArray), .string (⟨#[]⟩ : ByteArray), .string (⟨#[]⟩ : ByteArray)]) ?_ 0 _ rfl; (with_reducible repeat (first | refine ag_ ?_ _ | refine ai_ ?_ | refine af_ ?_ _)); exact BK109.out) (k43_mk _ (⟨y106, y107, y108⟩ : S43)))); rintro e w' ⟨rfl, ⟨nd, rfl⟩⟩; refine ⟨_, rfl, ?_⟩))
         (try simp only [Act.put, lsa_, ls0_, ls1_])
         have H := HC39.out
         clear HC39
         by_cases c45 : t110 = true
         rotate_left
         ·replace c45 := Bool.eq_false_iff.mpr c45
          subst c45
          have H1 : (some ((⟨#[]⟩ : ByteArray), (⟨#[]⟩ : ByteArray), (⟨#[]⟩ : ByteArray), 9)) = some (r1, r2, r3, r4) := by rw [if_neg (show ¬ (false = true) by decide)] at H; exact H
          clear H
          have H := H1
          clear H1
          simp only [Option.some.injEq, Prod.mk.injEq] at H
          obtain ⟨rfl, rfl, rfl, rfl⟩ := H
          have hnb49 := NB101_109.out
          have hnc49 := NB109_101.out
          have hcz50_0 : w41.cell? ⟨gb101, 0, none⟩ = some (.string (⟨#[]⟩ : ByteArray)) := (ad_ BK101.out 0).trans rfl
          have hcz50_1 : w41.cell? ⟨gb101, 1, none⟩ = some (.string (⟨#[]⟩ : ByteArray)) := (ad_ BK101.out 1).trans rfl
          have hcz50_2 : w41.cell? ⟨gb101, 2, none⟩ = some (.string (⟨#[]⟩ : ByteArray)) := (ad_ BK101.out 2).trans rfl
          have hfz50_0 := ab_ BK101.out 0
          have hfz50_1 := ab_ BK101.out 1
          have hfz50_2 := ab_ BK101.out 2
          go_wp2
          refine bodyPost_ret (bF_ rfl _ _ gb101 43 #[.string (⟨#[]⟩ : ByteArray), .string (⟨#[]⟩ : ByteArray), .string (⟨#[]⟩ : ByteArray)] (0, 0) _ rfl (by (with_reducible repeat (first | refine ag_ ?_ _ | refine ai_ ?_ | refine af_ ?_ _)); refine aO_ (cs := #[.string (⟨#[]⟩ : ByteArray), .string (⟨#[]⟩ : ByteArray), .string (⟨#[]⟩ : ByteArray)]) ?_ 2 _ rfl; (with_reducible repeat (first | refine ag_ ?_ _ | refine ai_ ?_ | refine af_ ?_ _)); refine aO_ (cs := #[.string (⟨#[]⟩ : ByteArray), .string (⟨#[]⟩ : ByteArray), .string (⟨#[]⟩ : ByteArray)]) ?_ 1 _ rfl; (with_reducible repeat (first | refine ag_ ?_ _ | refine ai_ ?_ | refine af_ ?_ _)); refine aO_ (cs := #[.string (⟨#[]⟩ : ByteArray), .string (⟨#[]⟩ : ByteArray), .string (⟨#[]⟩ : ByteArray)]) ?_ 0 _ rfl; (with_reducible repeat (first | refine ag_ ?_ _ | refine ai_ ?_ | refine af_ ?_ _)); refine blk_far ?_ NB101_109.out _; (with_reducible repeat (first | refine ag_ ?_ _ | refine ai_ ?_ | refine af_ ?_ _)); refine blk_far ?_ NB101_109.out _; (with_reducible repeat (first | refine ag_ ?_ _ | refine ai_ ?_ | refine af_ ?_ _)); refine blk_far ?_ NB101_109.out _; (with_reducible repeat (first | refine ag_ ?_ _ | refine ai_ ?_ | refine af_ ?_ _)); exact BK101.out) Tryd.underlying43 rfl (by kernel_rfl)) rfl ?_
          exact ⟨by first | rfl | (simp [as_, au_] <;> rfl) | (simp only [← hji31, ← hji35]; first | rfl | (simp [as_, au_] <;> rfl)) | (simp [*, as_, au_] <;> rfl), by repeat (first | (with_reducible first | exact HB.out | apply bA_ | apply bN_ | apply bD_ | refine ac_ ?_ GE101.out | refine ac_ ?_ GE109.out) | exact HB.out)⟩
         subst c45
         have H1 : (some (y106, y107, y108, 0)) = some (r1, r2, r3, r4) := by rw [if_pos rfl] at H; exact H
         clear H
         have H := H1
         clear H1
         simp only [Option.some.injEq, Prod.mk.injEq] at H
         obtain ⟨rfl, rfl, rfl, rfl⟩ := H
         have hnb46 := NB109_101.out
         have hnc46 := NB101_109.out
         have hcz47_0 : w41.cell? ⟨gb109, 0, none⟩ = some (.string (⟨#[]⟩ : ByteArray)) := (ad_ BK109.out 0).trans rfl
         have hcz47_1 : w41.cell? ⟨gb109, 1, none⟩ = some (.string (⟨#[]⟩ : ByteArray)) := (ad_ BK109.out 1).trans rfl
         have hcz47_2 : w41.cell? ⟨gb109, 2, none⟩ = some (.string (⟨#[]⟩ : ByteArray)) := (ad_ BK109.out 2).trans rfl
         have hfz47_0 := ab_ BK109.out 0
         have hfz47_1 := ab_ BK109.out 1
         have hfz47_2 := ab_ BK109.out 2
         have hcz48_0 : w41.cell? ⟨gb101, 0, none⟩ = some (.string (⟨#[]⟩ : ByteArray)) := (ad_ BK101.out 0).trans rfl
         have hcz48_1 : w41.cell? ⟨gb101, 1, none⟩ = some (.string (⟨#[]⟩ : ByteArray)) := (ad_ BK101.out 1).trans rfl
         have hcz48_2 : w41.cell? ⟨gb101, 2, none⟩ = some (.string (⟨#[]⟩ : ByteArray)) := (ad_ BK101.out 2).trans rfl
         have hfz48_0 := ab_ BK101.out 0
         have hfz48_1 := ab_ BK101.out 1
         have hfz48_2 := ab_ BK101.out 2
         go_wp2
         refine bodyPost_ret (bF_ rfl _ _ gb101 43 #[.string y106, .string y107, .string y108] (0, 0) _ rfl (by (with_reducible repeat (first | refine ag_ ?_ _ | refine ai_ ?_ | refine af_ ?_ _)); refine aO_ (cs := #[.string y106, .string y107, .string (⟨#[]⟩ : ByteArray)]) ?_ 2 _ rfl; (with_reducible repeat (first | refine ag_ ?_ _ | refine ai_ ?_ | refine af_ ?_ _)); refine aO_ (cs := #[.string y106, .string (⟨#[]⟩ : ByteArray), .string (⟨#[]⟩ : ByteArray)]) ?_ 1 _ rfl; (with_reducible repeat (first | refine ag_ ?_ _ | refine ai_ ?_ | refine af_ ?_ _)); refine aO_ (cs := #[.string (⟨#[]⟩ : ByteArray), .string (⟨#[]⟩ : ByteArray), .string (⟨#[]⟩ : ByteArray)]) ?_ 0 _ rfl; (with_reducible repeat (first | refine ag_ ?_ _ | refine ai_ ?_ | refine af_ ?_ _)); refine blk_far ?_ NB101_109.out _; (with_reducible repeat (first | refine ag_ ?_ _ | refine ai_ ?_ | refine af_ ?_ _)); refine blk_far ?_ NB101_109.out _; (with_reducible repeat (first | refine ag_ ?_ _ | refine ai_ ?_ | refine af_ ?_ _)); refine blk_far ?_ NB101_109.out _; (with_reducible repeat (first | refine ag_ ?_ _ | refine ai_ ?_ | refine af_ ?_ _)); exact BK101.out) Tryd.underlying43 rfl (by kernel_rfl)) rfl ?_
         exact ⟨by first | rfl | (simp [as_, au_] <;> rfl) | (simp only [← hji31, ← hji35]; first | rfl | (simp [as_, au_] <;> rfl)) | (simp [*, as_, au_] <;> rfl), by repeat (first | (with_reducible first | exact HB.out | apply bA_ | apply bN_ | apply bD_ | refine ac_ ?_ GE101.out | refine ac_ ?_ GE109.out) | exact HB.out)⟩
        rw [if_pos c27] at H
        have c27b0 : decide ((y102.size : Int) ≤ x6_21) = true := decide_eq_true c27
        clear c27
        simp only [Option.some.injEq, Prod.mk.injEq] at H
        obtain ⟨rfl, rfl, rfl, rfl⟩ := H
        have hcz28_0 : wc.cell? ⟨gb101, 0, none⟩ = some (.string (⟨#[]⟩ : ByteArray)) := (ad_ BK101.out 0).trans rfl
        have hcz28_1 : wc.cell? ⟨gb101, 1, none⟩ = some (.string (⟨#[]⟩ : ByteArray)) := (ad_ BK101.out 1).trans rfl
        have hcz28_2 : wc.cell? ⟨gb101, 2, none⟩ = some (.string (⟨#[]⟩ : ByteArray)) := (ad_ BK101.out 2).trans rfl
        have hfz28_0 := ab_ BK101.out 0
        have hfz28_1 := ab_ BK101.out 1
        have hfz28_2 := ab_ BK101.out 2
        go_wp2
        refine bodyPost_ret (bF_ rfl _ _ gb101 43 #[.string (⟨#[]⟩ : ByteArray), .string (⟨#[]⟩ : ByteArray), .string (⟨#[]⟩ : ByteArray)] (0, 0) _ rfl (by (with_reducible repeat (first | refine ag_ ?_ _ | refine ai_ ?_ | refine af_ ?_ _)); refine aO_ (cs := #[.string (⟨#[]⟩ : ByteArray), .string (⟨#[]⟩ : ByteArray), .string (⟨#[]⟩ : ByteArray)]) ?_ 2 _ rfl; (with_reducible repeat (first | refine ag_ ?_ _ | refine ai_ ?_ | refine af_ ?_ _)); refine aO_ (cs := #[.string (⟨#[]⟩ : ByteArray), .string (⟨#[]⟩ : ByteArray), .string (⟨#[]⟩ : ByteArray)]) ?_ 1 _ rfl; (with_reducible repeat (first | refine ag_ ?_ _ | refine ai_ ?_ | refine af_ ?_ _)); refine aO_ (cs := #[.string (⟨#[]⟩ : ByteArray), .string (⟨#[]⟩ : ByteArray), .string (⟨#[]⟩ : ByteArray)]) ?_ 0 _ rfl; (with_reducible repeat (first | refine ag_ ?_ _ | refine ai_ ?_ | refine af_ ?_ _)); exact BK101.out) Tryd.underlying43 rfl (by kernel_rfl)) rfl ?_
        exact ⟨by first | rfl | (simp [*, as_, au_] <;> rfl), by repeat (first | (with_reducible first | exact HB.out | apply bA_ | apply bN_ | apply bD_ | refine ac_ ?_ GE101.out) | exact HB.out)⟩
   subst c7
   have H1 : (some ((⟨#[]⟩ : ByteArray), (⟨#[]⟩ : ByteArray), (⟨#[]⟩ : ByteArray), 9)) = some (r1, r2, r3, r4) := by rw [if_pos rfl] at H; exact H
   clear H
   have H := H1
   clear H1
   simp only [Option.some.injEq, Prod.mk.injEq] at H
   obtain ⟨rfl, rfl, rfl, rfl⟩ := H
   have hcz8_0 : wc.cell? ⟨gb101, 0, none⟩ = some (.string (⟨#[]⟩ : ByteArray)) := (ad_ BK101.out 0).trans rfl
   have hcz8_1 : wc.cell? ⟨gb101, 1, none⟩ = some (.string (⟨#[]⟩ : ByteArray)) := (ad_ BK101.out 1).trans rfl
   have hcz8_2 : wc.cell? ⟨gb101, 2, none⟩ = some (.string (⟨#[]⟩ : ByteArray)) := (ad_ BK101.out 2).trans rfl
   have hfz8_0 := ab_ BK101.out 0
   have hfz8_1 := ab_ BK101.out 1
   have hfz8_2 := ab_ BK101.out 2
   go_wp2
   refine bodyPost_ret (bF_ rfl _ _ gb101 43 #[.string (⟨#[]⟩ : ByteArray), .string (⟨#[]⟩ : ByteArray), .string (⟨#[]⟩ : ByteArray)] (0, 0) _ rfl (by (with_reducible repeat (first | refine ag_ ?_ _ | refine ai_ ?_ | refine af_ ?_ _)); refine aO_ (cs := #[.string (⟨#[]⟩ : ByteArray), .string (⟨#[]⟩ : ByteArray), .string (⟨#[]⟩ : ByteArray)]) ?_ 2 _ rfl; (with_reducible repeat (first | refine ag_ ?_ _ | refine ai_ ?_ | refine af_ ?_ _)); refine aO_ (cs := #[.string (⟨#[]⟩ : ByteArray), .string (⟨#[]⟩ : ByteArray), .string (⟨#[]⟩ : ByteArray)]) ?_ 1 _ rfl; (with_reducible repeat (first | refine ag_ ?_ _ | refine ai_ ?_ | refine af_ ?_ _)); refine aO_ (cs := #[.string (⟨#[]⟩ : ByteArray), .string (⟨#[]⟩ : ByteArray), .string (⟨#[]⟩ : ByteArray)]) ?_ 0 _ rfl; (with_reducible repeat (first | refine ag_ ?_ _ | refine ai_ ?_ | refine af_ ?_ _)); exact BK101.out) Tryd.underlying43 rfl (by kernel_rfl)) rfl ?_
   exact ⟨by first | rfl | (simp [*, as_, au_] <;> rfl), by repeat (first | (with_reducible first | exact HB.out | apply bA_ | apply bN_ | apply bD_ | refine ac_ ?_ GE101.out) | exact HB.out)⟩
def aX_.f (l0 : List (S43)) (l1 : List (S43)) : Option (Bool) := if 0 < (l0.length : Int) then (if 0 < (l1.length : Int) then (if (Op.bytesLess (((aa_ l0 0).f0).toList) (((aa_ l1 0).f0).toList)) = true then (some true) else (if ((aa_ l0 0).f0).toList = ((aa_ l1 0).f0).toList then (some (Op.bytesLess (((aa_ l0 0).f1).toList) (((aa_ l1 0).f1).toList))) else (some false))) else (none)) else (none)
set_option maxHeartbeats 8000000 in
set_option maxRecDepth 100000 in
theorem aX_.calls (A0 : Option Addr) (l0 : List (S43)) (A1 : Option Addr) (l1 : List (S43)) (r : Bool) (w : World) (hr0 : Kd.C k43 w A0 l0.length l0) (hr1 : Kd.C k43 w A1 l1.length l1) (h : aX_.f l0 l1 = some r) :
  Calls Tryd.prog 31 #[.pointer A0, .pointer A1] w fun e w' => e = .returned (.bool r) ∧ ao_ w w' := by
 have HR0 := Aside0.mk hr0
 clear hr0
 have HR1 := Aside0.mk hr1
 clear hr1
 have H : (if 0 < (l0.length : Int) then (if 0 < (l1.length : Int) then (if (Op.bytesLess (((aa_ l0 0).f0).toList) (((aa_ l1 0).f0).toList)) = true then (some true) else (if ((aa_ l0 0).f0).toList = ((aa_ l1 0).f0).toList then (some (Op.bytesLess (((aa_ l0 0).f1).toList) (((aa_ l1 0).f1).toList))) else (some false))) else (none)) else (none)) = some r := h
 clear h
 by_cases c3 : 0 < (l0.length : Int)
 rotate_left
 ·rw [if_neg c3] at H
  exact absurd H (by simp)
 rw [if_pos c3] at H
 have c3b0 : decide (0 < (l0.length : Int)) = true := decide_eq_true c3
 have c3b1 : decide (0 < l0.length) = true := decide_eq_true (by omega)
 clear c3
 by_cases c4 : 0 < (l1.length : Int)
 rotate_left
 ·rw [if_neg c4] at H
  exact absurd H (by simp)
 rw [if_pos c4] at H
 have c4b0 : decide (0 < (l1.length : Int)) = true := decide_eq_true c4
 have c4b1 : decide (0 < l1.length) = true := decide_eq_true (by omega)
 clear c4
 by_cases c5 : (Op.bytesLess (((aa_ l0 0).f0).toList) (((aa_ l1 0).f0).toList)) = true
 rotate_left
 ·rw [if_neg c5] at H
  have c5b0 : (Op.bytesLess (((aa_ l0 0).f0).toList) (((aa_ l1 0).f0).toList)) = false := by simpa using c5
  clear c5
  by_cases c6 : ((aa_ l0 0).f0).toList = ((aa_ l1 0).f0).toList
  rotate_left
  ·rw [if_neg c6] at H
   have c6b0 : (((aa_ l0 0).f0).toList == ((aa_ l1 0).f0).toList) = false := beq_eq_false_iff_ne.mpr c6
   have c6b1 : (((aa_ l0 0).f0).toList != ((aa_ l1 0).f0).toList) = true := bne_iff_ne.mpr c6
   obtain rfl := Option.some.inj H
   have p101 : 0 ≤ (0 : Int) := (by omega)
   have q101 : 0 < (l0.length : Int) := of_decide_eq_true (by assumption)
   obtain ⟨ad101, e101, hx101_0, hx101_1, hx101_2⟩ := aW_ HR0.out 0 p101 q101
   cases e101
   have qi101 : (0 < l0.length) = True := eq_true (by omega)
   (try simp only [show ((0 : Int)).toNat = 0 from rfl, show 0 * 3 = 0 from rfl, Addr.add_zero'] at hx101_0)
   (try simp only [show ((0 : Int)).toNat = 0 from rfl, show 0 * 3 = 0 from rfl, Addr.add_zero'] at hx101_1)
   (try simp only [show ((0 : Int)).toNat = 0 from rfl, show 0 * 3 = 0 from rfl, Addr.add_zero'] at hx101_2)
   replace p101 := eq_true p101
   replace q101 := eq_true q101
   have p102 : 0 ≤ (0 : Int) := (by omega)
   have q102 : 0 < (l1.length : Int) := of_decide_eq_true (by assumption)
   obtain ⟨ad102, e102, hx102_0, hx102_1, hx102_2⟩ := aW_ HR1.out 0 p102 q102
   cases e102
   have qi102 : (0 < l1.length) = True := eq_true (by omega)
   (try simp only [show ((0 : Int)).toNat = 0 from rfl, show 0 * 3 = 0 from rfl, Addr.add_zero'] at hx102_0)
   (try simp only [show ((0 : Int)).toNat = 0 from rfl, show 0 * 3 = 0 from rfl, Addr.add_zero'] at hx102_1)
   (try simp only [show ((0 : Int)).toNat = 0 from rfl, show 0 * 3 = 0 from rfl, Addr.add_zero'] at hx102_2)
   replace p102 := eq_true p102
   replace q102 := eq_true q102
   have p103 : 0 ≤ (0 : Int) := (by omega)
   have q103 : 0 < (l0.length : Int) := of_decide_eq_true (by assumption)
   obtain ⟨ad103, e103, hx103_0, hx103_1, hx103_2⟩ := aW_ HR0.out 0 p103 q103
   obtain rfl : ad101 = ad103 := (by injection e103)
   have qi103 : (0 < l0.length) = True := eq_true (by omega)
   (try simp only [show ((0 : Int)).toNat = 0 from rfl, show 0 * 3 = 0 from rfl, Addr.add_zero'] at hx103_0)
   (try simp only [show ((0 : Int)).toNat = 0 from rfl, show 0 * 3 = 0 from rfl, Addr.add_zero'] at hx103_1)
   (try simp only [show ((0 : Int)).toNat = 0 from rfl, show 0 * 3 = 0 from rfl, Addr.add_zero'] at hx103_2)
   replace p103 := eq_true p103
   replace q103 := eq_true q103
   have p104 : 0 ≤ (0 : Int) := (by omega)
   have q104 : 0 < (l1.length : Int) := of_decide_eq_true (by assumption)
   obtain ⟨ad104, e104, hx104_0, hx104_1, hx104_2⟩ := aW_ HR1.out 0 p104 q104
   obtain rfl : ad102 = ad104 := (by injection e104)
   have qi104 : (0 < l1.length) = True := eq_true (by omega)
   (try simp only [show ((0 : Int)).toNat = 0 from rfl, show 0 * 3 = 0 from rfl, Addr.add_zero'] at hx104_0)
   (try simp only [show ((0 : Int)).toNat = 0 from rfl, show 0 * 3 = 0 from rfl, Addr.add_zero'] at hx104_1)
   (try simp only [show ((0 : Int)).toNat = 0 from rfl, show 0 * 3 = 0 from rfl, Addr.add_zero'] at hx104_2)
   replace p104 := eq_true p104
   replace q104 := eq_true q104
   go_enter Tryd.func31, Tryd.ntmps31
   go_wp2
   repeat (go_quiet (fail); try go_wp2)
   go_ret
   exact ⟨by first | rfl | (simp; done) | (simp [*]; done), by repeat (first | exact ao_.refl _ | apply ao_.step)⟩
  rw [if_pos c6] at H
  have c6b0 : (((aa_ l0 0).f0).toList == ((aa_ l1 0).f0).toList) = true := beq_iff_eq.mpr c6
  have c6b1 : (((aa_ l0 0).f0).toList != ((aa_ l1 0).f0).toList) = false := bne_eq_false_iff_eq.mpr c6
  clear c6
  obtain rfl := Option.some.inj H
  have p101 : 0 ≤ (0 : Int) := (by omega)
  have q101 : 0 < (l0.length : Int) := of_decide_eq_true (by assumption)
  obtain ⟨ad101, e101, hx101_0, hx101_1, hx101_2⟩ := aW_ HR0.out 0 p101 q101
  cases e101
  have qi101 : (0 < l0.length) = True := eq_true (by omega)
  (try simp only [show ((0 : Int)).toNat = 0 from rfl, show 0 * 3 = 0 from rfl, Addr.add_zero'] at hx101_0)
  (try simp only [show ((0 : Int)).toNat = 0 from rfl, show 0 * 3 = 0 from rfl, Addr.add_zero'] at hx101_1)
  (try simp only [show ((0 : Int)).toNat = 0 from rfl, show 0 * 3 = 0 from rfl, Addr.add_zero'] at hx101_2)
  replace p101 := eq_true p101
  replace q101 := eq_true q101
  have p102 : 0 ≤ (0 : Int) := (by omega)
  have q102 : 0 < (l1.length : Int) := of_decide_eq_true (by assumption)
  obtain ⟨ad102, e102, hx102_0, hx102_1, hx102_2⟩ := aW_ HR1.out 0 p102 q102
  cases e102
  have qi102 : (0 < l1.length) = True := eq_true (by omega)
  (try simp only [show ((0 : Int)).toNat = 0 from rfl, show 0 * 3 = 0 from rfl, Addr.add_zero'] at hx102_0)
  (try simp only [show ((0 : Int)).toNat = 0 from rfl, show 0 * 3 = 0 from rfl, Addr.add_zero'] at hx102_1)
  (try simp only [show ((0 : Int)).toNat = 0 from rfl, show 0 * 3 = 0 from rfl, Addr.add_zero'] at hx102_2)
  replace p102 := eq_true p102
  replace q102 := eq_true q102
  have p103 : 0 ≤ (0 : Int) := (by omega)
  have q103 : 0 < (l0.length : Int) := of_decide_eq_true (by assumption)
  obtain ⟨ad103, e103, hx103_0, hx103_1, hx103_2⟩ := aW_ HR0.out 0 p103 q103
  obtain rfl : ad101 = ad103 := (by injection e103)
  have qi103 : (0 < l0.length) = True := eq_true (by omega)
  (try simp only [show ((0 : Int)).toNat = 0 from rfl, show 0 * 3 = 0 from rfl, Addr.add_zero'] at hx103_0)
  (try simp only [show ((0 : Int)).toNat = 0 from rfl, show 0 * 3 = 0 from rfl, Addr.add_zero'] at hx103_1)
  (try simp only [show ((0 : Int)).toNat = 0 from rfl, show 0 * 3 = 0 from rfl, Addr.add_zero'] at hx103_2)
  replace p103 := eq_true p103
  replace q103 := eq_true q103
  have p104 : 0 ≤ (0 : Int) := (by omega)
  have q104 : 0 < (l1.length : Int) := of_decide_eq_true (by assumption)
  obtain ⟨ad104, e104, hx104_0, hx104_1, hx104_2⟩ := aW_ HR1.out 0 p104 q104
  obtain rfl : ad102 = ad104 := (by injection e104)
  have qi104 : (0 < l1.length) = True := eq_true (by omega)
  (try simp only [show ((0 : Int)).toNat = 0 from rfl, show 0 * 3 = 0 from rfl, Addr.add_zero'] at hx104_0)
  (try simp only [show ((0 : Int)).toNat = 0 from rfl, show 0 * 3 = 0 from rfl, Addr.add_zero'] at hx104_1)
  (try simp only [show ((0 : Int)).toNat = 0 from rfl, show 0 * 3 = 0 from rfl, Addr.add_zero'] at hx104_2)
  replace p104 := eq_true p104
  replace q104 := eq_true q104
  have p105 : 0 ≤ (0 : Int) := (by omega)
  have q105 : 0 < (l0.length : Int) := of_decide_eq_true (by assumption)
  obtain ⟨ad105, e105, hx105_0, hx105_1, hx105_2⟩ := aW_ HR0.out 0 p105 q105
  obtain rfl : ad101 = ad105 := (by injection e105)
  have qi105 : (0 < l0.length) = True := eq_true (by omega)
  (try simp only [show ((0 : Int)).toNat = 0 from rfl, show 0 * 3 = 0 from rfl, Addr.add_zero'] at hx105_0)
  (try simp only [show ((0 : Int)).toNat = 0 from rfl, show 0 * 3 = 0 from rfl, Addr.add_zero'] at hx105_1)
  (try simp only [show ((0 : Int)).toNat = 0 from rfl, show 0 * 3 = 0 from rfl, Addr.add_zero'] at hx105_2)
  replace p105 := eq_true p105
  replace q105 := eq_true q105
  have p106 : 0 ≤ (0 : Int) := (by omega)
  have q106 : 0 < (l1.length : Int) := of_decide_eq_true (by assumption)
  obtain ⟨ad106, e106, hx106_0, hx106_1, hx106_2⟩ := aW_ HR1.out 0 p106 q106
  obtain rfl : ad102 = ad106 := (by injection e106)
  have qi106 : (0 < l1.length) = True := eq_true (by omega)
  (try simp only [show ((0 : Int)).toNat = 0 from rfl, show 0 * 3 = 0 from rfl, Addr.add_zero'] at hx106_0)
  (try simp only [show ((0 : Int)).toNat = 0 from rfl, show 0 * 3 = 0 from rfl, Addr.add_zero'] at hx106_1)
  (try simp only [show ((0 : Int)).toNat = 0 from rfl, show 0 * 3 = 0 from rfl, Addr.add_zero'] at hx106_2)
  replace p106 := eq_true p106
  replace q106 := eq_true q106
  go_enter Tryd.func31, Tryd.ntmps31
  go_wp2
  repeat (go_quiet (fail); try go_wp2)
  go_ret
  exact ⟨by first | rfl | (simp; done) | (simp [*]; done), by repeat (first | exact ao_.refl _ | apply ao_.step)⟩
 rw [if_pos c5] at H
 have c5b0 : (Op.bytesLess (((aa_ l0 0).f0).toList) (((aa_ l1 0).f0).toList)) = true := c5
 clear c5
 obtain rfl := Option.some.inj H
 have p101 : 0 ≤ (0 : Int) := (by omega)
 have q101 : 0 < (l0.length : Int) := of_decide_eq_true (by assumption)
 obtain ⟨ad101, e101, hx101_0, hx101_1, hx101_2⟩ := aW_ HR0.out 0 p101 q101
 cases e101
 have qi101 : (0 < l0.length) = True := eq_true (by omega)
 (try simp only [show ((0 : Int)).toNat = 0 from rfl, show 0 * 3 = 0 from rfl, Addr.add_zero'] at hx101_0)
 (try simp only [show ((0 : Int)).toNat = 0 from rfl, show 0 * 3 = 0 from rfl, Addr.add_zero'] at hx101_1)
 (try simp only [show ((0 : Int)).toNat = 0 from rfl, show 0 * 3 = 0 from rfl, Addr.add_zero'] at hx101_2)
 replace p101 := eq_true p101
 replace q101 := eq_true q101
 have p102 : 0 ≤ (0 : Int) := (by omega)
 have q102 : 0 < (l1.length : Int) := of_decide_eq_true (by assumption)
 obtain ⟨ad102, e102, hx102_0, hx102_1, hx102_2⟩ := aW_ HR1.out 0 p102 q102
 cases e102
 have qi102 : (0 < l1.length) = True := eq_true (by omega)
 (try simp only [show ((0 : Int)).toNat = 0 from rfl, show 0 * 3 = 0 from rfl, Addr.add_zero'] at hx102_0)
 (try simp only [show ((0 : Int)).toNat = 0 from rfl, show 0 * 3 = 0 from rfl, Addr.add_zero'] at hx102_1)
 (try simp only [show ((0 : Int)).toNat = 0 from rfl, show 0 * 3 = 0 from rfl, Addr.add_zero'] at hx102_2)
 replace p102 := eq_true p102
 replace q102 := eq_true q102
 go_enter Tryd.func31, Tryd.ntmps31
 go_wp2
 repeat (go_quiet (fail); try go_wp2)
 go_ret
 exact ⟨by first | rfl | (simp; done) | (simp [*]; done), by repeat (first | exact ao_.refl _ | apply ao_.step)⟩
mutual
def ap_.l0 : Nat → List (S43) → List (S43) → Bool → Int → ByteArray → ByteArray → ByteArray → Option ((List (S43)))
 | 0, _, _, _, _, _, _, _ => none
 | k + 1, x0, x5, x6, x7, x102000, x102001, x102002 => if x7 < (x0.length : Int) then (if x6 = true then (ap_.j1 k x0 x5 x6 x7 false x102000 x102001 x102002) else (if 0 ≤ x7 then ((aX_.f [aa_ x0 x7] [(⟨x102000, x102001, x102002⟩ : S43)]).bind fun t109 => (ap_.j1 k x0 x5 x6 x7 (!t109) x102000 x102001 x102002)) else (none))) else (if x6 = true then (some x5) else (if x5.length < 2932031007402 then (some (x5 ++ [(⟨x102000, x102001, x102002⟩ : S43)])) else (none)))
def ap_.j1 : Nat → List (S43) → List (S43) → Bool → Int → Bool → ByteArray → ByteArray → ByteArray → Option ((List (S43)))
 | 0, _, _, _, _, _, _, _, _ => none
 | k + 1, x0, x5, x6, x7, x23, x102000, x102001, x102002 => if x23 = true then (if x5.length < 2932031007402 then ((some (x5 ++ [(⟨x102000, x102001, x102002⟩ : S43)] : List (S43))).bind fun y110 => (if 0 ≤ x7 then (if x7 < (x0.length : Int) then (if ((aa_ x0 x7).f0).toList = x102000.toList then (if ((aa_ x0 x7).f1).toList = x102001.toList then (ap_.l0 k x0 y110 true (wrap64 (x7 + 1)) x102000 x102001 x102002) else (if y110.length < 2932031007402 then (ap_.l0 k x0 (y110 ++ [(⟨(aa_ x0 x7).f0, (aa_ x0 x7).f1, (aa_ x0 x7).f2⟩ : S43)]) true (wrap64 (x7 + 1)) x102000 x102001 x102002) else (none))) else (if y110.length < 2932031007402 then (ap_.l0 k x0 (y110 ++ [(⟨(aa_ x0 x7).f0, (aa_ x0 x7).f1, (aa_ x0 x7).f2⟩ : S43)]) true (wrap64 (x7 + 1)) x102000 x102001 x102002) else (none))) else (none)) else (none))) else (none)) else (if 0 ≤ x7 then (if x7 < (x0.length : Int) then (if ((aa_ x0 x7).f0).toList = x102000.toList then (if ((aa_ x0 x7).f1).toList = x102001.toList then (ap_.l0 k x0 x5 x6 (wrap64 (x7 + 1)) x102000 x102001 x102002) else (if x5.length < 2932031007402 then (ap_.l0 k x0 (x5 ++ [(⟨(aa_ x0 x7).f0, (aa_ x0 x7).f1, (aa_ x0 x7).f2⟩ : S43)]) x6 (wrap64 (x7 + 1)) x102000 x102001 x102002) else (none))) else (if x5.length < 2932031007402 then (ap_.l0 k x0 (x5 ++ [(⟨(aa_ x0 x7).f0, (aa_ x0 x7).f1, (aa_ x0 x7).f2⟩ : S43)]) x6 (wrap64 (x7 + 1)) x102000 x102001 x102002) else (none))) else (none)) else (none))
end
def ap_.f (k : Nat) (l0 : List (S43)) (a1_0 : ByteArray) (a1_1 : ByteArray) (a1_2 : ByteArray) : Option ((List (S43))) := ap_.l0 k l0 (([] : List (S43))) false 0 a1_0 a1_1 a1_2
set_option maxHeartbeats 8000000 in
set_option maxRecDepth 100000 in
theorem ap_.calls (k : Nat) (A0 : Option Addr) (c0 : Nat) (l0 : List (S43)) (a1_0 : ByteArray) (a1_1 : ByteArray) (a1_2 : ByteArray) (r : List (S43)) (w : World) (hr0 : Kd.C k43 w A0 l0.length l0) (hc0 : l0.length ≤ c0) (h : ap_.f k l0 a1_0 a1_1 a1_2 = some r) :
  Calls Tryd.prog 39 #[.slice A0 l0.length c0, .agg #[.string a1_0, .string a1_1, .string a1_2]] w fun e w' => ∃ v0_ : Value, e = .returned (v0_) ∧ Kd.R k43 43 w' w.heap.size (fun _ => True) v0_ r ∧ Below w.heap.size w w' := by
 have hu43 := Tryd.underlying43
 have HR0 := Aside0.mk hr0
 have HC0 := Aside0.mk hc0
 clear hr0 hc0
 have HB := Aside0.mk (Below.refl w.heap.size w)
 have H : (ap_.l0 k l0 (([] : List (S43))) false 0 a1_0 a1_1 a1_2) = some r := h
 clear h
 obtain ⟨y102, hy102⟩ : ∃ y_ : List (S43), y_ = (([] : List (S43))) := ⟨_, rfl⟩
 replace H : (ap_.l0 k l0 y102 false 0 a1_0 a1_1 a1_2) = some r := by first | (rw [hy102]; with_reducible exact H) | (have H2_ := (Option.bind_some _ _).symm.trans H; rw [hy102]; with_reducible exact H2_) | (have H2_ := (Option.bind_some _ _).symm.trans H; with_reducible exact H2_) | with_reducible exact H | (rw [hy102]; exact H) | exact H
 have Ny102 := Aside0.mk hy102
 clear hy102
 have H' := Aside0.mk H
 clear H
 go_enter Tryd.func39, Tryd.ntmps39
 go_wp2_with (first | ((with_reducible refine be_ (N := 3) rfl ?_); refine bm_ ?hg (N := 3) ?hd (cs := #[.string a1_0, .string a1_1, .string a1_2]) (t := 43) ?hr ?_; (case hd => rfl); (case hg => rfl); (case hr => (go_simp; try rfl)); intro gb101 hg w3 hbox hb; have BK101 := Aside0.mk (hbox); have GW101 := Aside0.mk ((by rw [hg]; exact (ah_ (bz HB.out)) : w.heap.size ≤ gb101)); have GE101 := Aside0.mk ((by rw [hg]; exact (ah_ (bz HB.out)) : w.heap.size ≤ gb101)); replace HB := Aside0.mk (ak_ (bz HB.out) hb); clear hb hbox hg) | ((with_reducible refine be_ (N := 8) rfl ?_); refine Kd.R_lit k43 _ 43 ?hg (N := 8) ?hd (xs := ([] : List (S43))) (inner := []) (ok := fun _ => True) (okp := fun _ => True) ?hr ?hp (fun _ hk => hk) trivial (Below.refl _ _) (Nat.le_refl _) (by simp) ?_; (case hd => rfl); (case hg => rfl); (case hr => (go_simp; try rfl)); (case hp => exact (Reps.none _ _)); intro v103 w4 ho5 hb hg_ hnew_; clear hg_ hnew_; (first | rw [← Ny102.out] at ho5 | (simp only [Int.reduceToNat] at ho5; rw [← Ny102.out] at ho5)); have HO104 := Aside0.mk (Kd.bt_ (Kd.R_newB ho5 (g := gb101) (o := .cells #[.string a1_0, .string a1_1, .string a1_2] 43 (0, 0)) (kz BK101.out)) (ah_ (by repeat (first | (with_reducible first | exact HB.out | apply bA_ | apply bN_ | apply bD_ | refine ac_ ?_ GE101.out) | exact HB.out)))); replace BK101 := Aside0.mk (ba_ (g := gb101) (o := .cells #[.string a1_0, .string a1_1, .string a1_2] 43 (0, 0)) (kz BK101.out) hb); replace HB := Aside0.mk (ak_ (by repeat (first | (with_reducible first | exact HB.out | apply bA_ | apply bN_ | apply bD_ | refine ac_ ?_ GE101.out) | exact HB.out)) hb); clear hb ho5))
 repeat (go_quiet (first | ((with_reducible refine be_ (N := 3) rfl ?_); refine bm_ ?hg (N := 3) ?hd (cs := #[.string a1_0, .string a1_1, .string a1_2]) (t := 43) ?hr ?_; (case hd => rfl); (case hg => rfl); (case hr => (go_simp; try rfl)); intro gb101 hg w3 hbox hb; have BK101 := Aside0.mk (hbox); have GW101 := Aside0.mk ((by rw [hg]; exact (ah_ (bz HB.out)) : w.heap.size ≤ gb101)); have GE101 := Aside0.mk ((by rw [hg]; exact (ah_ (bz HB.out)) : w.heap.size ≤ gb101)); replace HB := Aside0.mk (ak_ (bz HB.out) hb); clear hb hbox hg) | ((with_reducible refine be_ (N := 8) rfl ?_); refine Kd.R_lit k43 _ 43 ?hg (N := 8) ?hd (xs := ([] : List (S43))) (inner := []) (ok := fun _ => True) (okp := fun _ => True) ?hr ?hp (fun _ hk => hk) trivial (Below.refl _ _) (Nat.le_refl _) (by simp) ?_; (case hd => rfl); (case hg => rfl); (case hr => (go_simp; try rfl)); (case hp => exact (Reps.none _ _)); intro v103 w4 ho5 hb hg_ hnew_; clear hg_ hnew_; (first | rw [← Ny102.out] at ho5 | (simp only [Int.reduceToNat] at ho5; rw [← Ny102.out] at ho5)); have HO104 := Aside0.mk (Kd.bt_ (Kd.R_newB ho5 (g := gb101) (o := .cells #[.string a1_0, .string a1_1, .string a1_2] 43 (0, 0)) (kz BK101.out)) (ah_ (by repeat (first | (with_reducible first | exact HB.out | apply bA_ | apply bN_ | apply bD_ | refine ac_ ?_ GE101.out) | exact HB.out)))); replace BK101 := Aside0.mk (ba_ (g := gb101) (o := .cells #[.string a1_0, .string a1_1, .string a1_2] 43 (0, 0)) (kz BK101.out) hb); replace HB := Aside0.mk (ak_ (by repeat (first | (with_reducible first | exact HB.out | apply bA_ | apply bN_ | apply bD_ | refine ac_ ?_ GE101.out) | exact HB.out)) hb); clear hb ho5)); try go_wp2_with (first | ((with_reducible refine be_ (N := 3) rfl ?_); refine bm_ ?hg (N := 3) ?hd (cs := #[.string a1_0, .string a1_1, .string a1_2]) (t := 43) ?hr ?_; (case hd => rfl); (case hg => rfl); (case hr => (go_simp; try rfl)); intro gb101 hg w3 hbox hb; have BK101 := Aside0.mk (hbox); have GW101 := Aside0.mk ((by rw [hg]; exact (ah_ (bz HB.out)) : w.heap.size ≤ gb101)); have GE101 := Aside0.mk ((by rw [hg]; exact (ah_ (bz HB.out)) : w.heap.size ≤ gb101)); replace HB := Aside0.mk (ak_ (bz HB.out) hb); clear hb hbox hg) | ((with_reducible refine be_ (N := 8) rfl ?_); refine Kd.R_lit k43 _ 43 ?hg (N := 8) ?hd (xs := ([] : List (S43))) (inner := []) (ok := fun _ => True) (okp := fun _ => True) ?hr ?hp (fun _ hk => hk) trivial (Below.refl _ _) (Nat.le_refl _) (by simp) ?_; (case hd => rfl); (case hg => rfl); (case hr => (go_simp; try rfl)); (case hp => exact (Reps.none _ _)); intro v103 w4 ho5 hb hg_ hnew_; clear hg_ hnew_; (first | rw [← Ny102.out] at ho5 | (simp only [Int.reduceToNat] at ho5; rw [← Ny102.out] at ho5)); have HO104 := Aside0.mk (Kd.bt_ (Kd.R_newB ho5 (g := gb101) (o := .cells #[.string a1_0, .string a1_1, .string a1_2] 43 (0, 0)) (kz BK101.out)) (ah_ (by repeat (first | (with_reducible first | exact HB.out | apply bA_ | apply bN_ | apply bD_ | refine ac_ ?_ GE101.out) | exact HB.out)))); replace BK101 := Aside0.mk (ba_ (g := gb101) (o := .cells #[.string a1_0, .string a1_1, .string a1_2] 43 (0, 0)) (kz BK101.out) hb); replace HB := Aside0.mk (ak_ (by repeat (first | (with_reducible first | exact HB.out | apply bA_ | apply bN_ | apply bD_ | refine ac_ ?_ GE101.out) | exact HB.out)) hb); clear hb ho5)))
 (try simp only [Act.put, lsa_, ls0_, ls1_])
 go_loopg [5, 6, 7] k (fun kq v5 v6 v7 w' => ∃ (x5_1 : List (S43)) (x6_1 : Bool) (x7_1 : Int), v6 = .bool x6_1 ∧ v7 = .int .i64 x7_1 ∧ Aside0 (ap_.l0 kq l0 x5_1 x6_1 x7_1 a1_0 a1_1 a1_2 = some r) ∧ Aside0 (kq ≤ k) ∧ Aside0 (Kd.R k43 43 w' w.heap.size (fun k_ => k_ ≠ gb101) v5 x5_1) ∧ Aside0 (w'.heap[gb101]? = some (.cells #[.string a1_0, .string a1_1, .string a1_2] 43 (0, 0))) ∧ Aside0 (Below w.heap.size w w'))
 case atStart => exact ⟨(y102), (false), (0), (by first | rfl | (simp; done) | (simp [*]; done)), (by first | rfl | (simp; done) | (simp [*]; done)), H', ⟨Nat.le_refl _⟩, ⟨rz (Kd.bf_ HO104.out (fun _ hk => hk.2))⟩, ⟨by (with_reducible repeat (first | refine ag_ ?_ _ | refine ai_ ?_ | refine af_ ?_ _)); exact BK101.out⟩, ⟨by repeat (first | (with_reducible first | exact HB.out | apply bA_ | apply bN_ | apply bD_ | refine ac_ ?_ GE101.out) | exact HB.out)⟩⟩
 case round =>
  clear H'
  obtain ⟨x5_1, x6_1, x7_1, rfl, rfl, HA, HK1, HO_5, BK101, HB⟩ := hrel
  cases gk with
  | zero => exact absurd HA.out (by simp [ap_.l0])
  | succ k1 =>
   have H := HA.out
   clear HA
   simp only [ap_.l0] at H
   by_cases c6 : x7_1 < (l0.length : Int)
   rotate_left
   ·rw [if_neg c6] at H
    have c6b0 : decide (x7_1 < (l0.length : Int)) = false := decide_eq_false c6
    clear c6
    by_cases c39 : x6_1 = true
    rotate_left
    ·replace c39 := Bool.eq_false_iff.mpr c39
     subst c39
     have H1 : (if x5_1.length < 2932031007402 then (some (x5_1 ++ [(⟨a1_0, a1_1, a1_2⟩ : S43)])) else (none)) = some r := by rw [if_neg (show ¬ (false = true) by decide)] at H; exact H
     clear H
     have H := H1
     clear H1
     by_cases c40 : x5_1.length < 2932031007402
     rotate_left
     ·rw [if_neg c40] at H
      exact absurd H (by simp)
     rw [if_pos c40] at H
     have LMc40 := Aside0.mk c40
     clear c40
     obtain ⟨y105, hy105⟩ : ∃ y_ : List (S43), y_ = (x5_1 ++ [(⟨a1_0, a1_1, a1_2⟩ : S43)]) := ⟨_, rfl⟩
     replace H : (some y105) = some r := by first | (rw [hy105]; with_reducible exact H) | (have H2_ := (Option.bind_some _ _).symm.trans H; rw [hy105]; with_reducible exact H2_) | (have H2_ := (Option.bind_some _ _).symm.trans H; with_reducible exact H2_) | with_reducible exact H | (rw [hy105]; exact H) | exact H
     have Ny105 := Aside0.mk hy105
     clear hy105
     obtain rfl := Option.some.inj H
     have hcz41_0 : wr.cell? ⟨gb101, 0, none⟩ = some (.string a1_0) := (ad_ BK101.out 0).trans rfl
     have hcz41_1 : wr.cell? ⟨gb101, 1, none⟩ = some (.string a1_1) := (ad_ BK101.out 1).trans rfl
     have hcz41_2 : wr.cell? ⟨gb101, 2, none⟩ = some (.string a1_2) := (ad_ BK101.out 2).trans rfl
     have hfz41_0 := ab_ BK101.out 0
     have hfz41_1 := ab_ BK101.out 1
     have hfz41_2 := ab_ BK101.out 2
     go_wp2_with (first | ((with_reducible refine aE_ (b := .append) (xs := #[.tmp 55, .tmp 57]) rfl ?_); at_builtin; refine Kd.bh_ k43 (w0 := w) w.heap.size rfl (.tmp 55) (.tmp 57) 27 43 (.agg #[(.string ⟨#[]⟩), (.string ⟨#[]⟩), (.string ⟨#[]⟩)]) 48 rfl Tryd.underlying27 bG_ rfl (by decide) (by omega) u5 x5_1 (⟨a1_0, a1_1, a1_2⟩ : S43) [.string a1_0, .string a1_1, .string a1_2] (fun k_ => k_ ≠ gb101) (fun _ => False) rfl rfl ?aP (fun _ hk => hk.elim) ?aF ?aO ?aB ?aS ?aL ?_; (case aP => exact bq_ _ _ _ (⟨a1_0, a1_1, a1_2⟩ : S43)); (case aB => exact (by repeat (first | (with_reducible first | exact HB.out | apply bA_ | apply bN_ | apply bD_ | refine ac_ ?_ GE101.out) | exact HB.out))); (case aF => exact (fun k_ hk => Kd.bK_ (g := gb101) (o := .cells #[.string a1_0, .string a1_1, .string a1_2] 43 (0, 0)) (kz BK101.out) k_ hk)); (case aO => exact (rz HO_5.out)); (case aS => exact (ah_ (by repeat (first | (with_reducible first | exact HB.out | apply bA_ | apply bN_ | apply bD_ | refine ac_ ?_ GE101.out) | exact HB.out)))); (case aL => have := LMc40.out; omega); intro v106 w42 ho hb hg hat; rw [← Ny105.out] at ho; replace BK101 := Aside0.mk (bi_ (g := gb101) (o := .cells #[.string a1_0, .string a1_1, .string a1_2] 43 (0, 0)) (kz BK101.out) hg (Kd.bx_ HO_5.out (fun _ hk => hk))); replace HB := Aside0.mk (hb); have HO107 := Aside0.mk (ho); clear HO_5; clear ho hb hg hat))
     repeat (go_quiet (first | ((with_reducible refine aE_ (b := .append) (xs := #[.tmp 55, .tmp 57]) rfl ?_); at_builtin; refine Kd.bh_ k43 (w0 := w) w.heap.size rfl (.tmp 55) (.tmp 57) 27 43 (.agg #[(.string ⟨#[]⟩), (.string ⟨#[]⟩), (.string ⟨#[]⟩)]) 48 rfl Tryd.underlying27 bG_ rfl (by decide) (by omega) u5 x5_1 (⟨a1_0, a1_1, a1_2⟩ : S43) [.string a1_0, .string a1_1, .string a1_2] (fun k_ => k_ ≠ gb101) (fun _ => False) rfl rfl ?aP (fun _ hk => hk.elim) ?aF ?aO ?aB ?aS ?aL ?_; (case aP => exact bq_ _ _ _ (⟨a1_0, a1_1, a1_2⟩ : S43)); (case aB => exact (by repeat (first | (with_reducible first | exact HB.out | apply bA_ | apply bN_ | apply bD_ | refine ac_ ?_ GE101.out) | exact HB.out))); (case aF => exact (fun k_ hk => Kd.bK_ (g := gb101) (o := .cells #[.string a1_0, .string a1_1, .string a1_2] 43 (0, 0)) (kz BK101.out) k_ hk)); (case aO => exact (rz HO_5.out)); (case aS => exact (ah_ (by repeat (first | (with_reducible first | exact HB.out | apply bA_ | apply bN_ | apply bD_ | refine ac_ ?_ GE101.out) | exact HB.out)))); (case aL => have := LMc40.out; omega); intro v106 w42 ho hb hg hat; rw [← Ny105.out] at ho; replace BK101 := Aside0.mk (bi_ (g := gb101) (o := .cells #[.string a1_0, .string a1_1, .string a1_2] 43 (0, 0)) (kz BK101.out) hg (Kd.bx_ HO_5.out (fun _ hk => hk))); replace HB := Aside0.mk (hb); have HO107 := Aside0.mk (ho); clear HO_5; clear ho hb hg hat)); try go_wp2_with (first | ((with_reducible refine aE_ (b := .append) (xs := #[.tmp 55, .tmp 57]) rfl ?_); at_builtin; refine Kd.bh_ k43 (w0 := w) w.heap.size rfl (.tmp 55) (.tmp 57) 27 43 (.agg #[(.string ⟨#[]⟩), (.string ⟨#[]⟩), (.string ⟨#[]⟩)]) 48 rfl Tryd.underlying27 bG_ rfl (by decide) (by omega) u5 x5_1 (⟨a1_0, a1_1, a1_2⟩ : S43) [.string a1_0, .string a1_1, .string a1_2] (fun k_ => k_ ≠ gb101) (fun _ => False) rfl rfl ?aP (fun _ hk => hk.elim) ?aF ?aO ?aB ?aS ?aL ?_; (case aP => exact bq_ _ _ _ (⟨a1_0, a1_1, a1_2⟩ : S43)); (case aB => exact (by repeat (first | (with_reducible first | exact HB.out | apply bA_ | apply bN_ | apply bD_ | refine ac_ ?_ GE101.out) | exact HB.out))); (case aF => exact (fun k_ hk => Kd.bK_ (g := gb101) (o := .cells #[.string a1_0, .string a1_1, .string a1_2] 43 (0, 0)) (kz BK101.out) k_ hk)); (case aO => exact (rz HO_5.out)); (case aS => exact (ah_ (by repeat (first | (with_reducible first | exact HB.out | apply bA_ | apply bN_ | apply bD_ | refine ac_ ?_ GE101.out) | exact HB.out)))); (case aL => have := LMc40.out; omega); intro v106 w42 ho hb hg hat; rw [← Ny105.out] at ho; replace BK101 := Aside0.mk (bi_ (g := gb101) (o := .cells #[.string a1_0, .string a1_1, .string a1_2] 43 (0, 0)) (kz BK101.out) hg (Kd.bx_ HO_5.out (fun _ hk => hk))); replace HB := Aside0.mk (hb); have HO107 := Aside0.mk (ho); clear HO_5; clear ho hb hg hat)))
     go_ret
     exact ⟨_, by first | rfl | (simp [*, as_, au_] <;> rfl), rz (Kd.bf_ HO107.out (fun _ hk => trivial)), by repeat (first | (with_reducible first | exact HB.out | apply bA_ | apply bN_ | apply bD_ | refine ac_ ?_ GE101.out) | exact HB.out)⟩
    subst c39
    have H1 : (some x5_1) = some r := by rw [if_pos rfl] at H; exact H
    clear H
    have H := H1
    clear H1
    obtain rfl := Option.some.inj H
    go_wp2
    repeat (go_quiet (fail); try go_wp2)
    go_ret
    exact ⟨_, by first | rfl | (simp [*, as_, au_] <;> rfl), rz (Kd.bf_ HO_5.out (fun _ hk => trivial)), by repeat (first | (with_reducible first | exact HB.out | apply bA_ | apply bN_ | apply bD_ | refine ac_ ?_ GE101.out) | exact HB.out)⟩
   rw [if_pos c6] at H
   have c6b0 : decide (x7_1 < (l0.length : Int)) = true := decide_eq_true c6
   clear c6
   have HC7 := Aside0.mk H
   clear H
   go_upto_region 6 with (fail)
   repeat (go_quiet (fail); go_upto_region 6 with (fail))
   go_cut [23] (fun v23 wc => ∃ (kq : Nat) (x23_6 : Bool), v23 = .bool x23_6 ∧ Aside0 (ap_.j1 kq l0 x5_1 x6_1 x7_1 x23_6 a1_0 a1_1 a1_2 = some r) ∧ Aside0 (kq ≤ k1) ∧ Aside0 (Kd.R k43 43 wc w.heap.size (fun k_ => k_ ≠ gb101) u5 x5_1) ∧ Aside0 (wc.heap[gb101]? = some (.cells #[.string a1_0, .string a1_1, .string a1_2] 43 (0, 0))) ∧ Aside0 (Below w.heap.size w wc))
   case first =>
    have H := HC7.out
    clear HC7
    by_cases c8 : x6_1 = true
    rotate_left
    ·replace c8 := Bool.eq_false_iff.mpr c8
     subst c8
     have H1 : (if 0 ≤ x7_1 then ((aX_.f [aa_ l0 x7_1] [(⟨a1_0, a1_1, a1_2⟩ : S43)]).bind fun t109 => (ap_.j1 k1 l0 x5_1 false x7_1 (!t109) a1_0 a1_1 a1_2)) else (none)) = some r := by rw [if_neg (show ¬ (false = true) by decide)] at H; exact H
     clear H
     have H := H1
     clear H1
     by_cases c9 : 0 ≤ x7_1
     rotate_left
     ·rw [if_neg c9] at H
      exact absurd H (by simp)
     rw [if_pos c9] at H
     have c9b0 : decide (0 ≤ x7_1) = true := decide_eq_true c9
     clear c9
     (first | rw [c9b0] | (simp only [i64_w, i32_w]; rw [c9b0]) | (simp only [c9b1, Bool.not_true, Bool.not_false]) | (simp only [c9b0, Bool.not_true, Bool.not_false]) | skip)
     replace H := Option.bind_eq_some_iff.mp H
     obtain ⟨t109, A100, H⟩ := H
     (try dsimp only at H)
     have A10 := Aside0.mk A100
     clear A100
     have H' := Aside0.mk H
     clear H
     have p108 : 0 ≤ (x7_1 : Int) := of_decide_eq_true (by assumption)
     have q108 : x7_1 < (l0.length : Int) := of_decide_eq_true (by assumption)
     obtain ⟨ad108, e108, hx108_0, hx108_1, hx108_2⟩ := aW_ HR0.out x7_1 p108 q108
     cases e108
     replace hx108_0 := (HB.out.cell (bl_ w _ hx108_0)).trans hx108_0
     replace hx108_1 := (HB.out.cell (bl_ w _ hx108_1)).trans hx108_1
     replace hx108_2 := (HB.out.cell (bl_ w _ hx108_2)).trans hx108_2
     replace p108 := eq_true p108
     replace q108 := eq_true q108
     go_wp2_with (first | (go_at_call 31; (with_reducible refine (aX_.calls _ [aa_ l0 x7_1] _ [(⟨a1_0, a1_1, a1_2⟩ : S43)] t109 _ ?side1 ?side2 A10.out).mono ?_); (case side1 => exact (RPW.bQ_ (ad := ad108) (n := l0.length) (xs := l0) z43 (i := x7_1) (by first | exact of_eq_true p108 | exact p108 | omega) (by first | exact of_eq_true q108 | exact q108 | omega) (by repeat (first | exact (Kd.bS_ HR0.out (by repeat (first | (with_reducible first | exact HB.out | apply bA_ | apply bN_ | apply bD_ | refine ac_ ?_ GE101.out) | exact HB.out))) | (with_reducible first | refine Kd.C_alloc ?_ _ | refine Kd.C_drewN ?_ _ | refine Kd.C_drew ?_))))); (case side2 => exact (RPW.C_blk (cs := [.string a1_0, .string a1_1, .string a1_2]) (t := 43) (g := gb101) (kz BK101.out) (k43_mk _ (⟨a1_0, a1_1, a1_2⟩ : S43)))); rintro e w' ⟨rfl, ⟨nd, rfl⟩⟩; (try first | exact ⟨rfl, _, World.drewN_drewN _ _ _⟩ | exact ⟨rfl, _, Eq.trans (World.drewN_drewN _ _ _) (congrArg (World.drewN _) (Nat.add_assoc _ _ _))⟩)))
     repeat (go_quiet (first | (go_at_call 31; (with_reducible refine (aX_.calls _ [aa_ l0 x7_1] _ [(⟨a1_0, a1_1, a1_2⟩ : S43)] t109 _ ?side1 ?side2 A10.out).mono ?_); (case side1 => exact (RPW.bQ_ (ad := ad108) (n := l0.length) (xs := l0) z43 (i := x7_1) (by first | exact of_eq_true p108 | exact p108 | omega) (by first | exact of_eq_true q108 | exact q108 | omega) (by repeat (first | exact (Kd.bS_ HR0.out (by repeat (first | (with_reducible first | exact HB.out | apply bA_ | apply bN_ | apply bD_ | refine ac_ ?_ GE101.out) | exact HB.out))) | (with_reducible first | refine Kd.C_alloc ?_ _ | refine Kd.C_drewN ?_ _ | refine Kd.C_drew ?_))))); (case side2 => exact (RPW.C_blk (cs := [.string a1_0, .string a1_1, .string a1_2]) (t := 43) (g := gb101) (kz BK101.out) (k43_mk _ (⟨a1_0, a1_1, a1_2⟩ : S43)))); rintro e w' ⟨rfl, ⟨nd, rfl⟩⟩; (try first | exact ⟨rfl, _, World.drewN_drewN _ _ _⟩ | exact ⟨rfl, _, Eq.trans (World.drewN_drewN _ _ _) (congrArg (World.drewN _) (Nat.add_assoc _ _ _))⟩))); try go_wp2_with (first | (go_at_call 31; (with_reducible refine (aX_.calls _ [aa_ l0 x7_1] _ [(⟨a1_0, a1_1, a1_2⟩ : S43)] t109 _ ?side1 ?side2 A10.out).mono ?_); (case side1 => exact (RPW.bQ_ (ad := ad108) (n := l0.length) (xs := l0) z43 (i := x7_1) (by first | exact of_eq_true p108 | exact p108 | omega) (by first | exact of_eq_true q108 | exact q108 | omega) (by repeat (first | exact (Kd.bS_ HR0.out (by repeat (first | (with_reducible first | exact HB.out | apply bA_ | apply bN_ | apply bD_ | refine ac_ ?_ GE101.out) | exact HB.out))) | (with_reducible first | refine Kd.C_alloc ?_ _ | refine Kd.C_drewN ?_ _ | refine Kd.C_drew ?_))))); (case side2 => exact (RPW.C_blk (cs := [.string a1_0, .string a1_1, .string a1_2]) (t := 43) (g := gb101) (kz BK101.out) (k43_mk _ (⟨a1_0, a1_1, a1_2⟩ : S43)))); rintro e w' ⟨rfl, ⟨nd, rfl⟩⟩; (try first | exact ⟨rfl, _, World.drewN_drewN _ _ _⟩ | exact ⟨rfl, _, Eq.trans (World.drewN_drewN _ _ _) (congrArg (World.drewN _) (Nat.add_assoc _ _ _))⟩))))
     go_meet
     case rel => exact ⟨_, (!t109), (by first | rfl | (simp; done) | (simp [*]; done)), H', ⟨by have := HK1.out; first | omega | exact Nat.le_refl _⟩, ⟨rz HO_5.out⟩, ⟨by (with_reducible repeat (first | refine ag_ ?_ _ | refine ai_ ?_ | refine af_ ?_ _)); exact BK101.out⟩, ⟨by repeat (first | (with_reducible first | exact HB.out | apply bA_ | apply bN_ | apply bD_ | refine ac_ ?_ GE101.out) | exact HB.out)⟩⟩
    subst c8
    have H1 : (ap_.j1 k1 l0 x5_1 true x7_1 false a1_0 a1_1 a1_2) = some r := by rw [if_pos rfl] at H; exact H
    clear H
    have H := H1
    clear H1
    have H' := Aside0.mk H
    clear H
    go_wp2
    repeat (go_quiet (fail); try go_wp2)
    go_meet
    case rel => exact ⟨_, (false), (by first | rfl | (simp; done) | (simp [*]; done)), H', ⟨by have := HK1.out; first | omega | exact Nat.le_refl _⟩, ⟨rz HO_5.out⟩, ⟨by (with_reducible repeat (first | refine ag_ ?_ _ | refine ai_ ?_ | refine af_ ?_ _)); exact BK101.out⟩, ⟨by repeat (first | (with_reducible first | exact HB.out | apply bA_ | apply bN_ | apply bD_ | refine ac_ ?_ GE101.out) | exact HB.out)⟩⟩
   case rest =>
    clear HC7
    obtain ⟨kq, x23_6, rfl, HA, HJ6, HO_5, BK101, HB⟩ := hcut
    cases kq with
    | zero => exact absurd HA.out (by simp [ap_.j1])
    | succ kj6 =>
     have H := HA.out
     clear HA
     simp only [ap_.j1] at H
     by_cases c11 : x23_6 = true
     rotate_left
     ·replace c11 := Bool.eq_false_iff.mpr c11
      subst c11
      have H1 : (if 0 ≤ x7_1 then (if x7_1 < (l0.length : Int) then (if ((aa_ l0 x7_1).f0).toList = a1_0.toList then (if ((aa_ l0 x7_1).f1).toList = a1_1.toList then (ap_.l0 kj6 l0 x5_1 x6_1 (wrap64 (x7_1 + 1)) a1_0 a1_1 a1_2) else (if x5_1.length < 2932031007402 then (ap_.l0 kj6 l0 (x5_1 ++ [(⟨(aa_ l0 x7_1).f0, (aa_ l0 x7_1).f1, (aa_ l0 x7_1).f2⟩ : S43)]) x6_1 (wrap64 (x7_1 + 1)) a1_0 a1_1 a1_2) else (none))) else (if x5_1.length < 2932031007402 then (ap_.l0 kj6 l0 (x5_1 ++ [(⟨(aa_ l0 x7_1).f0, (aa_ l0 x7_1).f1, (aa_ l0 x7_1).f2⟩ : S43)]) x6_1 (wrap64 (x7_1 + 1)) a1_0 a1_1 a1_2) else (none))) else (none)) else (none)) = some r := by rw [if_neg (show ¬ (false = true) by decide)] at H; exact H
      clear H
      have H := H1
      clear H1
      by_cases c28 : 0 ≤ x7_1
      rotate_left
      ·rw [if_neg c28] at H
       exact absurd H (by simp)
      rw [if_pos c28] at H
      have c28b0 : decide (0 ≤ x7_1) = true := decide_eq_true c28
      clear c28
      by_cases c29 : x7_1 < (l0.length : Int)
      rotate_left
      ·rw [if_neg c29] at H
       exact absurd H (by simp)
      rw [if_pos c29] at H
      have c29b0 : decide (x7_1 < (l0.length : Int)) = true := decide_eq_true c29
      clear c29
      by_cases c30 : ((aa_ l0 x7_1).f0).toList = a1_0.toList
      rotate_left
      ·rw [if_neg c30] at H
       have c30b0 : (((aa_ l0 x7_1).f0).toList == a1_0.toList) = false := beq_eq_false_iff_ne.mpr c30
       have c30b1 : (((aa_ l0 x7_1).f0).toList != a1_0.toList) = true := bne_iff_ne.mpr c30
       by_cases c36 : x5_1.length < 2932031007402
       rotate_left
       ·rw [if_neg c36] at H
        exact absurd H (by simp)
       rw [if_pos c36] at H
       have LMc36 := Aside0.mk c36
       clear c36
       obtain ⟨y130, hy130⟩ : ∃ y_ : List (S43), y_ = (x5_1 ++ [(⟨(aa_ l0 x7_1).f0, (aa_ l0 x7_1).f1, (aa_ l0 x7_1).f2⟩ : S43)]) := ⟨_, rfl⟩
       replace H : (ap_.l0 kj6 l0 y130 x6_1 (wrap64 (x7_1 + 1)) a1_0 a1_1 a1_2) = some r := by first | (rw [hy130]; with_reducible exact H) | (have H2_ := (Option.bind_some _ _).symm.trans H; rw [hy130]; with_reducible exact H2_) | (have H2_ := (Option.bind_some _ _).symm.trans H; with_reducible exact H2_) | with_reducible exact H | (rw [hy130]; exact H) | exact H
       have Ny130 := Aside0.mk hy130
       clear hy130
       have H' := Aside0.mk H
       clear H
       have p123 : 0 ≤ (x7_1 : Int) := of_decide_eq_true (by assumption)
       have q123 : x7_1 < (l0.length : Int) := of_decide_eq_true (by assumption)
       obtain ⟨ad123, e123, hx123_0, hx123_1, hx123_2⟩ := aW_ HR0.out x7_1 p123 q123
       cases e123
       replace hx123_0 := (HB.out.cell (bl_ w _ hx123_0)).trans hx123_0
       replace hx123_1 := (HB.out.cell (bl_ w _ hx123_1)).trans hx123_1
       replace hx123_2 := (HB.out.cell (bl_ w _ hx123_2)).trans hx123_2
       replace p123 := eq_true p123
       replace q123 := eq_true q123
       have hcz37_0 : wc.cell? ⟨gb101, 0, none⟩ = some (.string a1_0) := (ad_ BK101.out 0).trans rfl
       have hcz37_1 : wc.cell? ⟨gb101, 1, none⟩ = some (.string a1_1) := (ad_ BK101.out 1).trans rfl
       have hcz37_2 : wc.cell? ⟨gb101, 2, none⟩ = some (.string a1_2) := (ad_ BK101.out 2).trans rfl
       have hfz37_0 := ab_ BK101.out 0
       have hfz37_1 := ab_ BK101.out 1
       have hfz37_2 := ab_ BK101.out 2
       have p129 : 0 ≤ (x7_1 : Int) := of_decide_eq_true (by assumption)
       have q129 : x7_1 < (l0.length : Int) := of_decide_eq_true (by assumption)
       obtain ⟨ad129, e129, hx129_0, hx129_1, hx129_2⟩ := aW_ HR0.out x7_1 p129 q129
       obtain rfl : ad123 = ad129 := (by injection e129)
       replace hx129_0 := (HB.out.cell (bl_ w _ hx129_0)).trans hx129_0
       replace hx129_1 := (HB.out.cell (bl_ w _ hx129_1)).trans hx129_1
       replace hx129_2 := (HB.out.cell (bl_ w _ hx129_2)).trans hx129_2
       replace p129 := eq_true p129
       replace q129 := eq_true q129
       go_wp2_with (first | ((with_reducible refine aE_ (b := .append) (xs := #[.tmp 46, .tmp 51]) rfl ?_); at_builtin; refine Kd.bh_ k43 (w0 := w) w.heap.size rfl (.tmp 46) (.tmp 51) 27 43 (.agg #[(.string ⟨#[]⟩), (.string ⟨#[]⟩), (.string ⟨#[]⟩)]) 48 rfl Tryd.underlying27 bG_ rfl (by decide) (by omega) u5 x5_1 (⟨(aa_ l0 x7_1).f0, (aa_ l0 x7_1).f1, (aa_ l0 x7_1).f2⟩ : S43) [.string ((aa_ l0 x7_1).f0), .string ((aa_ l0 x7_1).f1), .string ((aa_ l0 x7_1).f2)] (fun k_ => k_ ≠ gb101) (fun _ => False) rfl rfl ?aP (fun _ hk => hk.elim) ?aF ?aO ?aB ?aS ?aL ?_; (case aP => exact bq_ _ _ _ (⟨(aa_ l0 x7_1).f0, (aa_ l0 x7_1).f1, (aa_ l0 x7_1).f2⟩ : S43)); (case aB => exact (by repeat (first | (with_reducible first | exact HB.out | apply bA_ | apply bN_ | apply bD_ | refine ac_ ?_ GE101.out) | exact HB.out))); (case aF => exact (fun k_ hk => Kd.bK_ (g := gb101) (o := .cells #[.string a1_0, .string a1_1, .string a1_2] 43 (0, 0)) (kz BK101.out) k_ hk)); (case aO => exact (rz HO_5.out)); (case aS => exact (ah_ (by repeat (first | (with_reducible first | exact HB.out | apply bA_ | apply bN_ | apply bD_ | refine ac_ ?_ GE101.out) | exact HB.out)))); (case aL => have := LMc36.out; omega); intro v131 w38 ho hb hg hat; rw [← Ny130.out] at ho; replace BK101 := Aside0.mk (bi_ (g := gb101) (o := .cells #[.string a1_0, .string a1_1, .string a1_2] 43 (0, 0)) (kz BK101.out) hg (Kd.bx_ HO_5.out (fun _ hk => hk))); replace HB := Aside0.mk (hb); have HO132 := Aside0.mk (ho); clear HO_5; clear ho hb hg hat))
       repeat (go_quiet (first | ((with_reducible refine aE_ (b := .append) (xs := #[.tmp 46, .tmp 51]) rfl ?_); at_builtin; refine Kd.bh_ k43 (w0 := w) w.heap.size rfl (.tmp 46) (.tmp 51) 27 43 (.agg #[(.string ⟨#[]⟩), (.string ⟨#[]⟩), (.string ⟨#[]⟩)]) 48 rfl Tryd.underlying27 bG_ rfl (by decide) (by omega) u5 x5_1 (⟨(aa_ l0 x7_1).f0, (aa_ l0 x7_1).f1, (aa_ l0 x7_1).f2⟩ : S43) [.string ((aa_ l0 x7_1).f0), .string ((aa_ l0 x7_1).f1), .string ((aa_ l0 x7_1).f2)] (fun k_ => k_ ≠ gb101) (fun _ => False) rfl rfl ?aP (fun _ hk => hk.elim) ?aF ?aO ?aB ?aS ?aL ?_; (case aP => exact bq_ _ _ _ (⟨(aa_ l0 x7_1).f0, (aa_ l0 x7_1).f1, (aa_ l0 x7_1).f2⟩ : S43)); (case aB => exact (by repeat (first | (with_reducible first | exact HB.out | apply bA_ | apply bN_ | apply bD_ | refine ac_ ?_ GE101.out) | exact HB.out))); (case aF => exact (fun k_ hk => Kd.bK_ (g := gb101) (o := .cells #[.string a1_0, .string a1_1, .string a1_2] 43 (0, 0)) (kz BK101.out) k_ hk)); (case aO => exact (rz HO_5.out)); (case aS => exact (ah_ (by repeat (first | (with_reducible first | exact HB.out | apply bA_ | apply bN_ | apply bD_ | refine ac_ ?_ GE101.out) | exact HB.out)))); (case aL => have := LMc36.out; omega); intro v131 w38 ho hb hg hat; rw [← Ny130.out] at ho; replace BK101 := Aside0.mk (bi_ (g := gb101) (o := .cells #[.string a1_0, .string a1_1, .string a1_2] 43 (0, 0)) (kz BK101.out) hg (Kd.bx_ HO_5.out (fun _ hk => hk))); replace HB := Aside0.mk (hb); have HO132 := Aside0.mk (ho); clear HO_5; clear ho hb hg hat)); try go_wp2_with (first | ((with_reducible refine aE_ (b := .append) (xs := #[.tmp 46, .tmp 51]) rfl ?_); at_builtin; refine Kd.bh_ k43 (w0 := w) w.heap.size rfl (.tmp 46) (.tmp 51) 27 43 (.agg #[(.string ⟨#[]⟩), (.string ⟨#[]⟩), (.string ⟨#[]⟩)]) 48 rfl Tryd.underlying27 bG_ rfl (by decide) (by omega) u5 x5_1 (⟨(aa_ l0 x7_1).f0, (aa_ l0 x7_1).f1, (aa_ l0 x7_1).f2⟩ : S43) [.string ((aa_ l0 x7_1).f0), .string ((aa_ l0 x7_1).f1), .string ((aa_ l0 x7_1).f2)] (fun k_ => k_ ≠ gb101) (fun _ => False) rfl rfl ?aP (fun _ hk => hk.elim) ?aF ?aO ?aB ?aS ?aL ?_; (case aP => exact bq_ _ _ _ (⟨(aa_ l0 x7_1).f0, (aa_ l0 x7_1).f1, (aa_ l0 x7_1).f2⟩ : S43)); (case aB => exact (by repeat (first | (with_reducible first | exact HB.out | apply bA_ | apply bN_ | apply bD_ | refine ac_ ?_ GE101.out) | exact HB.out))); (case aF => exact (fun k_ hk => Kd.bK_ (g := gb101) (o := .cells #[.string a1_0, .string a1_1, .string a1_2] 43 (0, 0)) (kz BK101.out) k_ hk)); (case aO => exact (rz HO_5.out)); (case aS => exact (ah_ (by repeat (first | (with_reducible first | exact HB.out | apply bA_ | apply bN_ | apply bD_ | refine ac_ ?_ GE101.out) | exact HB.out)))); (case aL => have := LMc36.out; omega); intro v131 w38 ho hb hg hat; rw [← Ny130.out] at ho; replace BK101 := Aside0.mk (bi_ (g := gb101) (o := .cells #[.string a1_0, .string a1_1, .string a1_2] 43 (0, 0)) (kz BK101.out) hg (Kd.bx_ HO_5.out (fun _ hk => hk))); replace HB := Aside0.mk (hb); have HO132 := Aside0.mk (ho); clear HO_5; clear ho hb hg hat)))
       go_roundg kj6
       case measure => have := HK1.out; have := HJ6.out; omega
       case rel => exact ⟨(y130), (x6_1), (wrap64 (x7_1 + 1)), (by first | rfl | (simp; done) | (simp [*]; done)), (by first | rfl | (simp; done) | (simp [*]; done)), H', ⟨by have := HK1.out; have := HJ6.out; omega⟩, ⟨rz HO132.out⟩, ⟨by (with_reducible repeat (first | refine ag_ ?_ _ | refine ai_ ?_ | refine af_ ?_ _)); exact BK101.out⟩, ⟨by repeat (first | (with_reducible first | exact HB.out | apply bA_ | apply bN_ | apply bD_ | refine ac_ ?_ GE101.out) | exact HB.out)⟩⟩
      rw [if_pos c30] at H
      have c30b0 : (((aa_ l0 x7_1).f0).toList == a1_0.toList) = true := beq_iff_eq.mpr c30
      have c30b1 : (((aa_ l0 x7_1).f0).toList != a1_0.toList) = false := bne_eq_false_iff_eq.mpr c30
      clear c30
      by_cases c31 : ((aa_ l0 x7_1).f1).toList = a1_1.toList
      rotate_left
      ·rw [if_neg c31] at H
       have c31b0 : (((aa_ l0 x7_1).f1).toList == a1_1.toList) = false := beq_eq_false_iff_ne.mpr c31
       have c31b1 : (((aa_ l0 x7_1).f1).toList != a1_1.toList) = true := bne_iff_ne.mpr c31
       by_cases c33 : x5_1.length < 2932031007402
       rotate_left
       ·rw [if_neg c33] at H
        exact absurd H (by simp)
       rw [if_pos c33] at H
       have LMc33 := Aside0.mk c33
       clear c33
       obtain ⟨y126, hy126⟩ : ∃ y_ : List (S43), y_ = (x5_1 ++ [(⟨(aa_ l0 x7_1).f0, (aa_ l0 x7_1).f1, (aa_ l0 x7_1).f2⟩ : S43)]) := ⟨_, rfl⟩
       replace H : (ap_.l0 kj6 l0 y126 x6_1 (wrap64 (x7_1 + 1)) a1_0 a1_1 a1_2) = some r := by first | (rw [hy126]; with_reducible exact H) | (have H2_ := (Option.bind_some _ _).symm.trans H; rw [hy126]; with_reducible exact H2_) | (have H2_ := (Option.bind_some _ _).symm.trans H; with_reducible exact H2_) | with_reducible exact H | (rw [hy126]; exact H) | exact H
       have Ny126 := Aside0.mk hy126
       clear hy126
       have H' := Aside0.mk H
       clear H
       have p123 : 0 ≤ (x7_1 : Int) := of_decide_eq_true (by assumption)
       have q123 : x7_1 < (l0.length : Int) := of_decide_eq_true (by assumption)
       obtain ⟨ad123, e123, hx123_0, hx123_1, hx123_2⟩ := aW_ HR0.out x7_1 p123 q123
       cases e123
       replace hx123_0 := (HB.out.cell (bl_ w _ hx123_0)).trans hx123_0
       replace hx123_1 := (HB.out.cell (bl_ w _ hx123_1)).trans hx123_1
       replace hx123_2 := (HB.out.cell (bl_ w _ hx123_2)).trans hx123_2
       replace p123 := eq_true p123
       replace q123 := eq_true q123
       have hcz34_0 : wc.cell? ⟨gb101, 0, none⟩ = some (.string a1_0) := (ad_ BK101.out 0).trans rfl
       have hcz34_1 : wc.cell? ⟨gb101, 1, none⟩ = some (.string a1_1) := (ad_ BK101.out 1).trans rfl
       have hcz34_2 : wc.cell? ⟨gb101, 2, none⟩ = some (.string a1_2) := (ad_ BK101.out 2).trans rfl
       have hfz34_0 := ab_ BK101.out 0
       have hfz34_1 := ab_ BK101.out 1
       have hfz34_2 := ab_ BK101.out 2
       have p124 : 0 ≤ (x7_1 : Int) := of_decide_eq_true (by assumption)
       have q124 : x7_1 < (l0.length : Int) := of_decide_eq_true (by assumption)
       obtain ⟨ad124, e124, hx124_0, hx124_1, hx124_2⟩ := aW_ HR0.out x7_1 p124 q124
       obtain rfl : ad123 = ad124 := (by injection e124)
       replace hx124_0 := (HB.out.cell (bl_ w _ hx124_0)).trans hx124_0
       replace hx124_1 := (HB.out.cell (bl_ w _ hx124_1)).trans hx124_1
       replace hx124_2 := (HB.out.cell (bl_ w _ hx124_2)).trans hx124_2
       replace p124 := eq_true p124
       replace q124 := eq_true q124
       have p125 : 0 ≤ (x7_1 : Int) := of_decide_eq_true (by assumption)
       have q125 : x7_1 < (l0.length : Int) := of_decide_eq_true (by assumption)
       obtain ⟨ad125, e125, hx125_0, hx125_1, hx125_2⟩ := aW_ HR0.out x7_1 p125 q125
       obtain rfl : ad123 = ad125 := (by injection e125)
       replace hx125_0 := (HB.out.cell (bl_ w _ hx125_0)).trans hx125_0
       replace hx125_1 := (HB.out.cell (bl_ w _ hx125_1)).trans hx125_1
       replace hx125_2 := (HB.out.cell (bl_ w _ hx125_2)).trans hx125_2
       replace p125 := eq_true p125
       replace q125 := eq_true q125
       go_wp2_with (first | ((with_reducible refine aE_ (b := .append) (xs := #[.tmp 46, .tmp 51]) rfl ?_); at_builtin; refine Kd.bh_ k43 (w0 := w) w.heap.size rfl (.tmp 46) (.tmp 51) 27 43 (.agg #[(.string ⟨#[]⟩), (.string ⟨#[]⟩), (.string ⟨#[]⟩)]) 48 rfl Tryd.underlying27 bG_ rfl (by decide) (by omega) u5 x5_1 (⟨(aa_ l0 x7_1).f0, (aa_ l0 x7_1).f1, (aa_ l0 x7_1).f2⟩ : S43) [.string ((aa_ l0 x7_1).f0), .string ((aa_ l0 x7_1).f1), .string ((aa_ l0 x7_1).f2)] (fun k_ => k_ ≠ gb101) (fun _ => False) rfl rfl ?aP (fun _ hk => hk.elim) ?aF ?aO ?aB ?aS ?aL ?_; (case aP => exact bq_ _ _ _ (⟨(aa_ l0 x7_1).f0, (aa_ l0 x7_1).f1, (aa_ l0 x7_1).f2⟩ : S43)); (case aB => exact (by repeat (first | (with_reducible first | exact HB.out | apply bA_ | apply bN_ | apply bD_ | refine ac_ ?_ GE101.out) | exact HB.out))); (case aF => exact (fun k_ hk => Kd.bK_ (g := gb101) (o := .cells #[.string a1_0, .string a1_1, .string a1_2] 43 (0, 0)) (kz BK101.out) k_ hk)); (case aO => exact (rz HO_5.out)); (case aS => exact (ah_ (by repeat (first | (with_reducible first | exact HB.out | apply bA_ | apply bN_ | apply bD_ | refine ac_ ?_ GE101.out) | exact HB.out)))); (case aL => have := LMc33.out; omega); intro v127 w35 ho hb hg hat; rw [← Ny126.out] at ho; replace BK101 := Aside0.mk (bi_ (g := gb101) (o := .cells #[.string a1_0, .string a1_1, .string a1_2] 43 (0, 0)) (kz BK101.out) hg (Kd.bx_ HO_5.out (fun _ hk => hk))); replace HB := Aside0.mk (hb); have HO128 := Aside0.mk (ho); clear HO_5; clear ho hb hg hat))
       repeat (go_quiet (first | ((with_reducible refine aE_ (b := .append) (xs := #[.tmp 46, .tmp 51]) rfl ?_); at_builtin; refine Kd.bh_ k43 (w0 := w) w.heap.size rfl (.tmp 46) (.tmp 51) 27 43 (.agg #[(.string ⟨#[]⟩), (.string ⟨#[]⟩), (.string ⟨#[]⟩)]) 48 rfl Tryd.underlying27 bG_ rfl (by decide) (by omega) u5 x5_1 (⟨(aa_ l0 x7_1).f0, (aa_ l0 x7_1).f1, (aa_ l0 x7_1).f2⟩ : S43) [.string ((aa_ l0 x7_1).f0), .string ((aa_ l0 x7_1).f1), .string ((aa_ l0 x7_1).f2)] (fun k_ => k_ ≠ gb101) (fun _ => False) rfl rfl ?aP (fun _ hk => hk.elim) ?aF ?aO ?aB ?aS ?aL ?_; (case aP => exact bq_ _ _ _ (⟨(aa_ l0 x7_1).f0, (aa_ l0 x7_1).f1, (aa_ l0 x7_1).f2⟩ : S43)); (case aB => exact (by repeat (first | (with_reducible first | exact HB.out | apply bA_ | apply bN_ | apply bD_ | refine ac_ ?_ GE101.out) | exact HB.out))); (case aF => exact (fun k_ hk => Kd.bK_ (g := gb101) (o := .cells #[.string a1_0, .string a1_1, .string a1_2] 43 (0, 0)) (kz BK101.out) k_ hk)); (case aO => exact (rz HO_5.out)); (case aS => exact (ah_ (by repeat (first | (with_reducible first | exact HB.out | apply bA_ | apply bN_ | apply bD_ | refine ac_ ?_ GE101.out) | exact HB.out)))); (case aL => have := LMc33.out; omega); intro v127 w35 ho hb hg hat; rw [← Ny126.out] at ho; replace BK101 := Aside0.mk (bi_ (g := gb101) (o := .cells #[.string a1_0, .string a1_1, .string a1_2] 43 (0, 0)) (kz BK101.out) hg (Kd.bx_ HO_5.out (fun _ hk => hk))); replace HB := Aside0.mk (hb); have HO128 := Aside0.mk (ho); clear HO_5; clear ho hb hg hat)); try go_wp2_with (first | ((with_reducible refine aE_ (b := .append) (xs := #[.tmp 46, .tmp 51]) rfl ?_); at_builtin; refine Kd.bh_ k43 (w0 := w) w.heap.size rfl (.tmp 46) (.tmp 51) 27 43 (.agg #[(.string ⟨#[]⟩), (.string ⟨#[]⟩), (.string ⟨#[]⟩)]) 48 rfl Tryd.underlying27 bG_ rfl (by decide) (by omega) u5 x5_1 (⟨(aa_ l0 x7_1).f0, (aa_ l0 x7_1).f1, (aa_ l0 x7_1).f2⟩ : S43) [.string ((aa_ l0 x7_1).f0), .string ((aa_ l0 x7_1).f1), .string ((aa_ l0 x7_1).f2)] (fun k_ => k_ ≠ gb101) (fun _ => False) rfl rfl ?aP (fun _ hk => hk.elim) ?aF ?aO ?aB ?aS ?aL ?_; (case aP => exact bq_ _ _ _ (⟨(aa_ l0 x7_1).f0, (aa_ l0 x7_1).f1, (aa_ l0 x7_1).f2⟩ : S43)); (case aB => exact (by repeat (first | (with_reducible first | exact HB.out | apply bA_ | apply bN_ | apply bD_ | refine ac_ ?_ GE101.out) | exact HB.out))); (case aF => exact (fun k_ hk => Kd.bK_ (g := gb101) (o := .cells #[.string a1_0, .string a1_1, .string a1_2] 43 (0, 0)) (kz BK101.out) k_ hk)); (case aO => exact (rz HO_5.out)); (case aS => exact (ah_ (by repeat (first | (with_reducible first | exact HB.out | apply bA_ | apply bN_ | apply bD_ | refine ac_ ?_ GE101.out) | exact HB.out)))); (case aL => have := LMc33.out; omega); intro v127 w35 ho hb hg hat; rw [← Ny126.out] at ho; replace BK101 := Aside0.mk (bi_ (g := gb101) (o := .cells #[.string a1_0, .string a1_1, .string a1_2] 43 (0, 0)) (kz BK101.out) hg (Kd.bx_ HO_5.out (fun _ hk => hk))); replace HB := Aside0.mk (hb); have HO128 := Aside0.mk (ho); clear HO_5; clear ho hb hg hat)))
       go_roundg kj6
       case measure => have := HK1.out; have := HJ6.out; omega
       case rel => exact ⟨(y126), (x6_1), (wrap64 (x7_1 + 1)), (by first | rfl | (simp; done) | (simp [*]; done)), (by first | rfl | (simp; done) | (simp [*]; done)), H', ⟨by have := HK1.out; have := HJ6.out; omega⟩, ⟨rz HO128.out⟩, ⟨by (with_reducible repeat (first | refine ag_ ?_ _ | refine ai_ ?_ | refine af_ ?_ _)); exact BK101.out⟩, ⟨by repeat (first | (with_reducible first | exact HB.out | apply bA_ | apply bN_ | apply bD_ | refine ac_ ?_ GE101.out) | exact HB.out)⟩⟩
      rw [if_pos c31] at H
      have c31b0 : (((aa_ l0 x7_1).f1).toList == a1_1.toList) = true := beq_iff_eq.mpr c31
      have c31b1 : (((aa_ l0 x7_1).f1).toList != a1_1.toList) = false := bne_eq_false_iff_eq.mpr c31
      clear c31
      have H' := Aside0.mk H
      clear H
      have p123 : 0 ≤ (x7_1 : Int) := of_decide_eq_true (by assumption)
      have q123 : x7_1 < (l0.length : Int) := of_decide_eq_true (by assumption)
      obtain ⟨ad123, e123, hx123_0, hx123_1, hx123_2⟩ := aW_ HR0.out x7_1 p123 q123
      cases e123
      replace hx123_0 := (HB.out.cell (bl_ w _ hx123_0)).trans hx123_0
      replace hx123_1 := (HB.out.cell (bl_ w _ hx123_1)).trans hx123_1
      replace hx123_2 := (HB.out.cell (bl_ w _ hx123_2)).trans hx123_2
      replace p123 := eq_true p123
      replace q123 := eq_true q123
      have hcz32_0 : wc.cell? ⟨gb101, 0, none⟩ = some (.string a1_0) := (ad_ BK101.out 0).trans rfl
      have hcz32_1 : wc.cell? ⟨gb101, 1, none⟩ = some (.string a1_1) := (ad_ BK101.out 1).trans rfl
      have hcz32_2 : wc.cell? ⟨gb101, 2, none⟩ = some (.string a1_2) := (ad_ BK101.out 2).trans rfl
      have hfz32_0 := ab_ BK101.out 0
      have hfz32_1 := ab_ BK101.out 1
      have hfz32_2 := ab_ BK101.out 2
      have p124 : 0 ≤ (x7_1 : Int) := of_decide_eq_true (by assumption)
      have q124 : x7_1 < (l0.length : Int) := of_decide_eq_true (by assumption)
      obtain ⟨ad124, e124, hx124_0, hx124_1, hx124_2⟩ := aW_ HR0.out x7_1 p124 q124
      obtain rfl : ad123 = ad124 := (by injection e124)
      replace hx124_0 := (HB.out.cell (bl_ w _ hx124_0)).trans hx124_0
      replace hx124_1 := (HB.out.cell (bl_ w _ hx124_1)).trans hx124_1
      replace hx124_2 := (HB.out.cell (bl_ w _ hx124_2)).trans hx124_2
      replace p124 := eq_true p124
      replace q124 := eq_true q124
      go_wp2
      repeat (go_quiet (fail); try go_wp2)
      go_roundg kj6
      case measure => have := HK1.out; have := HJ6.out; omega
      case rel => exact ⟨(x5_1), (x6_1), (wrap64 (x7_1 + 1)), (by first | rfl | (simp; done) | (simp [*]; done)), (by first | rfl | (simp; done) | (simp [*]; done)), H', ⟨by have := HK1.out; have := HJ6.out; omega⟩, ⟨rz HO_5.out⟩, ⟨by (with_reducible repeat (first | refine ag_ ?_ _ | refine ai_ ?_ | refine af_ ?_ _)); exact BK101.out⟩, ⟨by repeat (first | (with_reducible first | exact HB.out | apply bA_ | apply bN_ | apply bD_ | refine ac_ ?_ GE101.out) | exact HB.out)⟩⟩
     subst c11
     have H1 : (if x5_1.length < 2932031007402 then ((some (x5_1 ++ [(⟨a1_0, a1_1, a1_2⟩ : S43)] : List (S43))).bind fun y110 => (if 0 ≤ x7_1 then (if x7_1 < (l0.length : Int) then (if ((aa_ l0 x7_1).f0).toList = a1_0.toList then (if ((aa_ l0 x7_1).f1).toList = a1_1.toList then (ap_.l0 kj6 l0 y110 true (wrap64 (x7_1 + 1)) a1_0 a1_1 a1_2) else (if y110.length < 2932031007402 then (ap_.l0 kj6 l0 (y110 ++ [(⟨(aa_ l0 x7_1).f0, (aa_ l0 x7_1).f1, (aa_ l0 x7_1).f2⟩ : S43)]) true (wrap64 (x7_1 + 1)) a1_0 a1_1 a1_2) else (none))) else (if y110.length < 2932031007402 then (ap_.l0 kj6 l0 (y110 ++ [(⟨(aa_ l0 x7_1).f0, (aa_ l0 x7_1).f1, (aa_ l0 x7_1).f2⟩ : S43)]) true (wrap64 (x7_1 + 1)) a1_0 a1_1 a1_2) else (none))) else (none)) else (none))) else (none)) = some r := by rw [if_pos rfl] at H; exact H
     clear H
     have H := H1
     clear H1
     by_cases c12 : x5_1.length < 2932031007402
     rotate_left
     ·rw [if_neg c12] at H
      exact absurd H (by simp)
     rw [if_pos c12] at H
     have LMc12 := Aside0.mk c12
     clear c12
     obtain ⟨y110, hy110⟩ : ∃ y_ : List (S43), y_ = (x5_1 ++ [(⟨a1_0, a1_1, a1_2⟩ : S43)]) := ⟨_, rfl⟩
     replace H : (if 0 ≤ x7_1 then (if x7_1 < (l0.length : Int) then (if ((aa_ l0 x7_1).f0).toList = a1_0.toList then (if ((aa_ l0 x7_1).f1).toList = a1_1.toList then (ap_.l0 kj6 l0 y110 true (wrap64 (x7_1 + 1)) a1_0 a1_1 a1_2) else (if y110.length < 2932031007402 then (ap_.l0 kj6 l0 (y110 ++ [(⟨(aa_ l0 x7_1).f0, (aa_ l0 x7_1).f1, (aa_ l0 x7_1).f2⟩ : S43)]) true (wrap64 (x7_1 + 1)) a1_0 a1_1 a1_2) else (none))) else (if y110.length < 2932031007402 then (ap_.l0 kj6 l0 (y110 ++ [(⟨(aa_ l0 x7_1).f0, (aa_ l0 x7_1).f1, (aa_ l0 x7_1).f2⟩ : S43)]) true (wrap64 (x7_1 + 1)) a1_0 a1_1 a1_2) else (none))) else (none)) else (none)) = some r := by first | (rw [hy110]; with_reducible exact H) | (have H2_ := (Option.bind_some _ _).symm.trans H; rw [hy110]; with_reducible exact H2_) | (have H2_ := (Option.bind_some _ _).symm.trans H; with_reducible exact H2_) | with_reducible exact H | (rw [hy110]; exact H) | exact H
     have Ny110 := Aside0.mk hy110
     clear hy110
     by_cases c13 : 0 ≤ x7_1
     rotate_left
     ·rw [if_neg c13] at H
      exact absurd H (by simp)
     rw [if_pos c13] at H
     have c13b0 : decide (0 ≤ x7_1) = true := decide_eq_true c13
     clear c13
     by_cases c14 : x7_1 < (l0.length : Int)
     rotate_left
     ·rw [if_neg c14] at H
      exact absurd H (by simp)
     rw [if_pos c14] at H
     have c14b0 : decide (x7_1 < (l0.length : Int)) = true := decide_eq_true c14
     clear c14
     by_cases c15 : ((aa_ l0 x7_1).f0).toList = a1_0.toList
     rotate_left
     ·rw [if_neg c15] at H
      have c15b0 : (((aa_ l0 x7_1).f0).toList == a1_0.toList) = false := beq_eq_false_iff_ne.mpr c15
      have c15b1 : (((aa_ l0 x7_1).f0).toList != a1_0.toList) = true := bne_iff_ne.mpr c15
      by_cases c23 : y110.length < 2932031007402
      rotate_left
      ·rw [if_neg c23] at H
       exact absurd H (by simp)
      rw [if_pos c23] at H
      have LMc23 := Aside0.mk c23
      clear c23
      obtain ⟨y120, hy120⟩ : ∃ y_ : List (S43), y_ = (y110 ++ [(⟨(aa_ l0 x7_1).f0, (aa_ l0 x7_1).f1, (aa_ l0 x7_1).f2⟩ : S43)]) := ⟨_, rfl⟩
      replace H : (ap_.l0 kj6 l0 y120 true (wrap64 (x7_1 + 1)) a1_0 a1_1 a1_2) = some r := by first | (rw [hy120]; with_reducible exact H) | (have H2_ := (Option.bind_some _ _).symm.trans H; rw [hy120]; with_reducible exact H2_) | (have H2_ := (Option.bind_some _ _).symm.trans H; with_reducible exact H2_) | with_reducible exact H | (rw [hy120]; exact H) | exact H
      have Ny120 := Aside0.mk hy120
      clear hy120
      have H' := Aside0.mk H
      clear H
      have hcz24_0 : wc.cell? ⟨gb101, 0, none⟩ = some (.string a1_0) := (ad_ BK101.out 0).trans rfl
      have hcz24_1 : wc.cell? ⟨gb101, 1, none⟩ = some (.string a1_1) := (ad_ BK101.out 1).trans rfl
      have hcz24_2 : wc.cell? ⟨gb101, 2, none⟩ = some (.string a1_2) := (ad_ BK101.out 2).trans rfl
      have hfz24_0 := ab_ BK101.out 0
      have hfz24_1 := ab_ BK101.out 1
      have hfz24_2 := ab_ BK101.out 2
      go_wp2_with (first | ((with_reducible refine aE_ (b := .append) (xs := #[.tmp 24, .tmp 26]) rfl ?_); at_builtin; refine Kd.bh_ k43 (w0 := w) w.heap.size rfl (.tmp 24) (.tmp 26) 27 43 (.agg #[(.string ⟨#[]⟩), (.string ⟨#[]⟩), (.string ⟨#[]⟩)]) 48 rfl Tryd.underlying27 bG_ rfl (by decide) (by omega) u5 x5_1 (⟨a1_0, a1_1, a1_2⟩ : S43) [.string a1_0, .string a1_1, .string a1_2] (fun k_ => k_ ≠ gb101) (fun _ => False) rfl rfl ?aP (fun _ hk => hk.elim) ?aF ?aO ?aB ?aS ?aL ?_; (case aP => exact bq_ _ _ _ (⟨a1_0, a1_1, a1_2⟩ : S43)); (case aB => exact (by repeat (first | (with_reducible first | exact HB.out | apply bA_ | apply bN_ | apply bD_ | refine ac_ ?_ GE101.out) | exact HB.out))); (case aF => exact (fun k_ hk => Kd.bK_ (g := gb101) (o := .cells #[.string a1_0, .string a1_1, .string a1_2] 43 (0, 0)) (kz BK101.out) k_ hk)); (case aO => exact (rz HO_5.out)); (case aS => exact (ah_ (by repeat (first | (with_reducible first | exact HB.out | apply bA_ | apply bN_ | apply bD_ | refine ac_ ?_ GE101.out) | exact HB.out)))); (case aL => have := LMc12.out; omega); intro v111 w25 ho hb hg hat; rw [← Ny110.out] at ho; replace BK101 := Aside0.mk (bi_ (g := gb101) (o := .cells #[.string a1_0, .string a1_1, .string a1_2] 43 (0, 0)) (kz BK101.out) hg (Kd.bx_ HO_5.out (fun _ hk => hk))); replace HB := Aside0.mk (hb); have HO112 := Aside0.mk (ho); clear HO_5; clear ho hb hg hat; have p113 : 0 ≤ (x7_1 : Int) := of_decide_eq_true (by assumption); have q113 : x7_1 < (l0.length : Int) := of_decide_eq_true (by assumption); obtain ⟨ad113, e113, hx113_0, hx113_1, hx113_2⟩ := aW_ HR0.out x7_1 p113 q113; cases e113; replace hx113_0 := (HB.out.cell (bl_ w _ hx113_0)).trans hx113_0; replace hx113_1 := (HB.out.cell (bl_ w _ hx113_1)).trans hx113_1; replace hx113_2 := (HB.out.cell (bl_ w _ hx113_2)).trans hx113_2; replace p113 := eq_true p113; replace q113 := eq_true q113; have hcz26_0 : w25.cell? ⟨gb101, 0, none⟩ = some (.string a1_0) := (ad_ BK101.out 0).trans rfl; have hcz26_1 : w25.cell? ⟨gb101, 1, none⟩ = some (.string a1_1) := (ad_ BK101.out 1).trans rfl; have hcz26_2 : w25.cell? ⟨gb101, 2, none⟩ = some (.string a1_2) := (ad_ BK101.out 2).trans rfl; have hfz26_0 := ab_ BK101.out 0; have hfz26_1 := ab_ BK101.out 1; have hfz26_2 := ab_ BK101.out 2; have p119 : 0 ≤ (x7_1 : Int) := of_decide_eq_true (by assumption); have q119 : x7_1 < (l0.length : Int) := of_decide_eq_true (by assumption); obtain ⟨ad119, e119, hx119_0, hx119_1, hx119_2⟩ := aW_ HR0.out x7_1 p119 q119; obtain rfl : ad113 = ad119 := (by injection e119); replace hx119_0 := (HB.out.cell (bl_ w _ hx119_0)).trans hx119_0; replace hx119_1 := (HB.out.cell (bl_ w _ hx119_1)).trans hx119_1; replace hx119_2 := (HB.out.cell (bl_ w _ hx119_2)).trans hx119_2; replace p119 := eq_true p119; replace q119 := eq_true q119) | ((with_reducible refine aE_ (b := .append) (xs := #[.tmp 46, .tmp 51]) rfl ?_); at_builtin; refine Kd.bh_ k43 (w0 := w) w.heap.size rfl (.tmp 46) (.tmp 51) 27 43 (.agg #[(.string ⟨#[]⟩), (.string ⟨#[]⟩), (.string ⟨#[]⟩)]) 48 rfl Tryd.underlying27 bG_ rfl (by decide) (by omega) v111 y110 (⟨(aa_ l0 x7_1).f0, (aa_ l0 x7_1).f1, (aa_ l0 x7_1).f2⟩ : S43) [.string ((aa_ l0 x7_1).f0), .string ((aa_ l0 x7_1).f1), .string ((aa_ l0 x7_1).f2)] (fun k_ => k_ ≠ gb101) (fun _ => False) rfl rfl ?aP (fun _ hk => hk.elim) ?aF ?aO ?aB ?aS ?aL ?_; (case aP => exact bq_ _ _ _ (⟨(aa_ l0 x7_1).f0, (aa_ l0 x7_1).f1, (aa_ l0 x7_1).f2⟩ : S43)); (case aB => exact (by repeat (first | (with_reducible first | exact HB.out | apply bA_ | apply bN_ | apply bD_ | refine ac_ ?_ GE101.out) | exact HB.out))); (case aF => exact (fun k_ hk => Kd.bK_ (g := gb101) (o := .cells #[.string a1_0, .string a1_1, .string a1_2] 43 (0, 0)) (kz BK101.out) k_ hk)); (case aO => exact (rz HO112.out)); (case aS => exact (ah_ (by repeat (first | (with_reducible first | exact HB.out | apply bA_ | apply bN_ | apply bD_ | refine ac_ ?_ GE101.out) | exact HB.out)))); (case aL => have := LMc23.out; omega); intro v121 w27 ho hb hg hat; rw [← Ny120.out] at ho; replace BK101 := Aside0.mk (bi_ (g := gb101) (o := .cells #[.string a1_0, .string a1_1, .string a1_2] 43 (0, 0)) (kz BK101.out) hg (Kd.bx_ HO112.out (fun _ hk => hk))); replace HB := Aside0.mk (hb); have HO122 := Aside0.mk (ho); clear HO112; clear ho hb hg hat))
      repeat (go_quiet (first | ((with_reducible refine aE_ (b := .append) (xs := #[.tmp 24, .tmp 26]) rfl ?_); at_builtin; refine Kd.bh_ k43 (w0 := w) w.heap.size rfl (.tmp 24) (.tmp 26) 27 43 (.agg #[(.string ⟨#[]⟩), (.string ⟨#[]⟩), (.string ⟨#[]⟩)]) 48 rfl Tryd.underlying27 bG_ rfl (by decide) (by omega) u5 x5_1 (⟨a1_0, a1_1, a1_2⟩ : S43) [.string a1_0, .string a1_1, .string a1_2] (fun k_ => k_ ≠ gb101) (fun _ => False) rfl rfl ?aP (fun _ hk => hk.elim) ?aF ?aO ?aB ?aS ?aL ?_; (case aP => exact bq_ _ _ _ (⟨a1_0, a1_1, a1_2⟩ : S43)); (case aB => exact (by repeat (first | (with_reducible first | exact HB.out | apply bA_ | apply bN_ | apply bD_ | refine ac_ ?_ GE101.out) | exact HB.out))); (case aF => exact (fun k_ hk => Kd.bK_ (g := gb101) (o := .cells #[.string a1_0, .string a1_1, .string a1_2] 43 (0, 0)) (kz BK101.out) k_ hk)); (case aO => exact (rz HO_5.out)); (case aS => exact (ah_ (by repeat (first | (with_reducible first | exact HB.out | apply bA_ | apply bN_ | apply bD_ | refine ac_ ?_ GE101.out) | exact HB.out)))); (case aL => have := LMc12.out; omega); intro v111 w25 ho hb hg hat; rw [← Ny110.out] at ho; replace BK101 := Aside0.mk (bi_ (g := gb101) (o := .cells #[.string a1_0, .string a1_1, .string a1_2] 43 (0, 0)) (kz BK101.out) hg (Kd.bx_ HO_5.out (fun _ hk => hk))); replace HB := Aside0.mk (hb); have HO112 := Aside0.mk (ho); clear HO_5; clear ho hb hg hat; have p113 : 0 ≤ (x7_1 : Int) := of_decide_eq_true (by assumption); have q113 : x7_1 < (l0.length : Int) := of_decide_eq_true (by assumption); obtain ⟨ad113, e113, hx113_0, hx113_1, hx113_2⟩ := aW_ HR0.out x7_1 p113 q113; cases e113; replace hx113_0 := (HB.out.cell (bl_ w _ hx113_0)).trans hx113_0; replace hx113_1 := (HB.out.cell (bl_ w _ hx113_1)).trans hx113_1; replace hx113_2 := (HB.out.cell (bl_ w _ hx113_2)).trans hx113_2; replace p113 := eq_true p113; replace q113 := eq_true q113; have hcz26_0 : w25.cell? ⟨gb101, 0, none⟩ = some (.string a1_0) := (ad_ BK101.out 0).trans rfl; have hcz26_1 : w25.cell? ⟨gb101, 1, none⟩ = some (.string a1_1) := (ad_ BK101.out 1).trans rfl; have hcz26_2 : w25.cell? ⟨gb101, 2, none⟩ = some (.string a1_2) := (ad_ BK101.out 2).trans rfl; have hfz26_0 := ab_ BK101.out 0; have hfz26_1 := ab_ BK101.out 1; have hfz26_2 := ab_ BK101.out 2; have p119 : 0 ≤ (x7_1 : Int) := of_decide_eq_true (by assumption); have q119 : x7_1 < (l0.length : Int) := of_decide_eq_true (by assumption); obtain ⟨ad119, e119, hx119_0, hx119_1, hx119_2⟩ := aW_ HR0.out x7_1 p119 q119; obtain rfl : ad113 = ad119 := (by injection e119); replace hx119_0 := (HB.out.cell (bl_ w _ hx119_0)).trans hx119_0; replace hx119_1 := (HB.out.cell (bl_ w _ hx119_1)).trans hx119_1; replace hx119_2 := (HB.out.cell (bl_ w _ hx119_2)).trans hx119_2; replace p119 := eq_true p119; replace q119 := eq_true q119) | ((with_reducible refine aE_ (b := .append) (xs := #[.tmp 46, .tmp 51]) rfl ?_); at_builtin; refine Kd.bh_ k43 (w0 := w) w.heap.size rfl (.tmp 46) (.tmp 51) 27 43 (.agg #[(.string ⟨#[]⟩), (.string ⟨#[]⟩), (.string ⟨#[]⟩)]) 48 rfl Tryd.underlying27 bG_ rfl (by decide) (by omega) v111 y110 (⟨(aa_ l0 x7_1).f0, (aa_ l0 x7_1).f1, (aa_ l0 x7_1).f2⟩ : S43) [.string ((aa_ l0 x7_1).f0), .string ((aa_ l0 x7_1).f1), .string ((aa_ l0 x7_1).f2)] (fun k_ => k_ ≠ gb101) (fun _ => False) rfl rfl ?aP (fun _ hk => hk.elim) ?aF ?aO ?aB ?aS ?aL ?_; (case aP => exact bq_ _ _ _ (⟨(aa_ l0 x7_1).f0, (aa_ l0 x7_1).f1, (aa_ l0 x7_1).f2⟩ : S43)); (case aB => exact (by repeat (first | (with_reducible first | exact HB.out | apply bA_ | apply bN_ | apply bD_ | refine ac_ ?_ GE101.out) | exact HB.out))); (case aF => exact (fun k_ hk => Kd.bK_ (g := gb101) (o := .cells #[.string a1_0, .string a1_1, .string a1_2] 43 (0, 0)) (kz BK101.out) k_ hk)); (case aO => exact (rz HO112.out)); (case aS => exact (ah_ (by repeat (first | (with_reducible first | exact HB.out | apply bA_ | apply bN_ | apply bD_ | refine ac_ ?_ GE101.out) | exact HB.out)))); (case aL => have := LMc23.out; omega); intro v121 w27 ho hb hg hat; rw [← Ny120.out] at ho; replace BK101 := Aside0.mk (bi_ (g := gb101) (o := .cells #[.string a1_0, .string a1_1, .string a1_2] 43 (0, 0)) (kz BK101.out) hg (Kd.bx_ HO112.out (fun _ hk => hk))); replace HB := Aside0.mk (hb); have HO122 := Aside0.mk (ho); clear HO112; clear ho hb hg hat)); try go_wp2_with (first | ((with_reducible refine aE_ (b := .append) (xs := #[.tmp 24, .tmp 26]) rfl ?_); at_builtin; refine Kd.bh_ k43 (w0 := w) w.heap.size rfl (.tmp 24) (.tmp 26) 27 43 (.agg #[(.string ⟨#[]⟩), (.string ⟨#[]⟩), (.string ⟨#[]⟩)]) 48 rfl Tryd.underlying27 bG_ rfl (by decide) (by omega) u5 x5_1 (⟨a1_0, a1_1, a1_2⟩ : S43) [.string a1_0, .string a1_1, .string a1_2] (fun k_ => k_ ≠ gb101) (fun _ => False) rfl rfl ?aP (fun _ hk => hk.elim) ?aF ?aO ?aB ?aS ?aL ?_; (case aP => exact bq_ _ _ _ (⟨a1_0, a1_1, a1_2⟩ : S43)); (case aB => exact (by repeat (first | (with_reducible first | exact HB.out | apply bA_ | apply bN_ | apply bD_ | refine ac_ ?_ GE101.out) | exact HB.out))); (case aF => exact (fun k_ hk => Kd.bK_ (g := gb101) (o := .cells #[.string a1_0, .string a1_1, .string a1_2] 43 (0, 0)) (kz BK101.out) k_ hk)); (case aO => exact (rz HO_5.out)); (case aS => exact (ah_ (by repeat (first | (with_reducible first | exact HB.out | apply bA_ | apply bN_ | apply bD_ | refine ac_ ?_ GE101.out) | exact HB.out)))); (case aL => have := LMc12.out; omega); intro v111 w25 ho hb hg hat; rw [← Ny110.out] at ho; replace BK101 := Aside0.mk (bi_ (g := gb101) (o := .cells #[.string a1_0, .string a1_1, .string a1_2] 43 (0, 0)) (kz BK101.out) hg (Kd.bx_ HO_5.out (fun _ hk => hk))); replace HB := Aside0.mk (hb); have HO112 := Aside0.mk (ho); clear HO_5; clear ho hb hg hat; have p113 : 0 ≤ (x7_1 : Int) := of_decide_eq_true (by assumption); have q113 : x7_1 < (l0.length : Int) := of_decide_eq_true (by assumption); obtain ⟨ad113, e113, hx113_0, hx113_1, hx113_2⟩ := aW_ HR0.out x7_1 p113 q113; cases e113; replace hx113_0 := (HB.out.cell (bl_ w _ hx113_0)).trans hx113_0; replace hx113_1 := (HB.out.cell (bl_ w _ hx113_1)).trans hx113_1; replace hx113_2 := (HB.out.cell (bl_ w _ hx113_2)).trans hx113_2; replace p113 := eq_true p113; replace q113 := eq_true q113; have hcz26_0 : w25.cell? ⟨gb101, 0, none⟩ = some (.string a1_0) := (ad_ BK101.out 0).trans rfl; have hcz26_1 : w25.cell? ⟨gb101, 1, none⟩ = some (.string a1_1) := (ad_ BK101.out 1).trans rfl; have hcz26_2 : w25.cell? ⟨gb101, 2, none⟩ = some (.string a1_2) := (ad_ BK101.out 2).trans rfl; have hfz26_0 := ab_ BK101.out 0; have hfz26_1 := ab_ BK101.out 1; have hfz26_2 := ab_ BK101.out 2; have p119 : 0 ≤ (x7_1 : Int) := of_decide_eq_true (by assumption); have q119 : x7_1 < (l0.length : Int) := of_decide_eq_true (by assumption); obtain ⟨ad119, e119, hx119_0, hx119_1, hx119_2⟩ := aW_ HR0.out x7_1 p119 q119; obtain rfl : ad113 = ad119 := (by injection e119); replace hx119_0 := (HB.out.cell (bl_ w _ hx119_0)).trans hx119_0; replace hx119_1 := (HB.out.cell (bl_ w _ hx119_1)).trans hx119_1; replace hx119_2 := (HB.out.cell (bl_ w _ hx119_2)).trans hx119_2; replace p119 := eq_true p119; replace q119 := eq_true q119) | ((with_reducible refine aE_ (b := .append) (xs := #[.tmp 46, .tmp 51]) rfl ?_); at_builtin; refine Kd.bh_ k43 (w0 := w) w.heap.size rfl (.tmp 46) (.tmp 51) 27 43 (.agg #[(.string ⟨#[]⟩), (.string ⟨#[]⟩), (.string ⟨#[]⟩)]) 48 rfl Tryd.underlying27 bG_ rfl (by decide) (by omega) v111 y110 (⟨(aa_ l0 x7_1).f0, (aa_ l0 x7_1).f1, (aa_ l0 x7_1).f2⟩ : S43) [.string ((aa_ l0 x7_1).f0), .string ((aa_ l0 x7_1).f1), .string ((aa_ l0 x7_1).f2)] (fun k_ => k_ ≠ gb101) (fun _ => False) rfl rfl ?aP (fun _ hk => hk.elim) ?aF ?aO ?aB ?aS ?aL ?_; (case aP => exact bq_ _ _ _ (⟨(aa_ l0 x7_1).f0, (aa_ l0 x7_1).f1, (aa_ l0 x7_1).f2⟩ : S43)); (case aB => exact (by repeat (first | (with_reducible first | exact HB.out | apply bA_ | apply bN_ | apply bD_ | refine ac_ ?_ GE101.out) | exact HB.out))); (case aF => exact (fun k_ hk => Kd.bK_ (g := gb101) (o := .cells #[.string a1_0, .string a1_1, .string a1_2] 43 (0, 0)) (kz BK101.out) k_ hk)); (case aO => exact (rz HO112.out)); (case aS => exact (ah_ (by repeat (first | (with_reducible first | exact HB.out | apply bA_ | apply bN_ | apply bD_ | refine ac_ ?_ GE101.out) | exact HB.out)))); (case aL => have := LMc23.out; omega); intro v121 w27 ho hb hg hat; rw [← Ny120.out] at ho; replace BK101 := Aside0.mk (bi_ (g := gb101) (o := .cells #[.string a1_0, .string a1_1, .string a1_2] 43 (0, 0)) (kz BK101.out) hg (Kd.bx_ HO112.out (fun _ hk => hk))); replace HB := Aside0.mk (hb); have HO122 := Aside0.mk (ho); clear HO112; clear ho hb hg hat)))
      go_roundg kj6
      case measure => have := HK1.out; have := HJ6.out; omega
      case rel => exact ⟨(y120), (true), (wrap64 (x7_1 + 1)), (by first | rfl | (simp; done) | (simp [*]; done)), (by first | rfl | (simp; done) | (simp [*]; done)), H', ⟨by have := HK1.out; have := HJ6.out; omega⟩, ⟨rz HO122.out⟩, ⟨by (with_reducible repeat (first | refine ag_ ?_ _ | refine ai_ ?_ | refine af_ ?_ _)); exact BK101.out⟩, ⟨by repeat (first | (with_reducible first | exact HB.out | apply bA_ | apply bN_ | apply bD_ | refine ac_ ?_ GE101.out) | exact HB.out)⟩⟩
     rw [if_pos c15] at H
     have c15b0 : (((aa_ l0 x7_1).f0).toList == a1_0.toList) = true := beq_iff_eq.mpr c15
     have c15b1 : (((aa_ l0 x7_1).f0).toList != a1_0.toList) = false := bne_eq_false_iff_eq.mpr c15
     clear c15
     have HC16 := Aside0.mk H
     clear H
     have hcz17_0 : wc.cell? ⟨gb101, 0, none⟩ = some (.string a1_0) := (ad_ BK101.out 0).trans rfl
     have hcz17_1 : wc.cell? ⟨gb101, 1, none⟩ = some (.string a1_1) := (ad_ BK101.out 1).trans rfl
     have hcz17_2 : wc.cell? ⟨gb101, 2, none⟩ = some (.string a1_2) := (ad_ BK101.out 2).trans rfl
     have hfz17_0 := ab_ BK101.out 0
     have hfz17_1 := ab_ BK101.out 1
     have hfz17_2 := ab_ BK101.out 2
     go_upto_if 45 with (first | ((with_reducible refine aE_ (b := .append) (xs := #[.tmp 24, .tmp 26]) rfl ?_); at_builtin; refine Kd.bh_ k43 (w0 := w) w.heap.size rfl (.tmp 24) (.tmp 26) 27 43 (.agg #[(.string ⟨#[]⟩), (.string ⟨#[]⟩), (.string ⟨#[]⟩)]) 48 rfl Tryd.underlying27 bG_ rfl (by decide) (by omega) u5 x5_1 (⟨a1_0, a1_1, a1_2⟩ : S43) [.string a1_0, .string a1_1, .string a1_2] (fun k_ => k_ ≠ gb101) (fun _ => False) rfl rfl ?aP (fun _ hk => hk.elim) ?aF ?aO ?aB ?aS ?aL ?_; (case aP => exact bq_ _ _ _ (⟨a1_0, a1_1, a1_2⟩ : S43)); (case aB => exact (by repeat (first | (with_reducible first | exact HB.out | apply bA_ | apply bN_ | apply bD_ | refine ac_ ?_ GE101.out) | exact HB.out))); (case aF => exact (fun k_ hk => Kd.bK_ (g := gb101) (o := .cells #[.string a1_0, .string a1_1, .string a1_2] 43 (0, 0)) (kz BK101.out) k_ hk)); (case aO => exact (rz HO_5.out)); (case aS => exact (ah_ (by repeat (first | (with_reducible first | exact HB.out | apply bA_ | apply bN_ | apply bD_ | refine ac_ ?_ GE101.out) | exact HB.out)))); (case aL => have := LMc12.out; omega); intro v111 w18 ho hb hg hat; rw [← Ny110.out] at ho; replace BK101 := Aside0.mk (bi_ (g := gb101) (o := .cells #[.string a1_0, .string a1_1, .string a1_2] 43 (0, 0)) (kz BK101.out) hg (Kd.bx_ HO_5.out (fun _ hk => hk))); replace HB := Aside0.mk (hb); have HO112 := Aside0.mk (ho); clear HO_5; clear ho hb hg hat; have p113 : 0 ≤ (x7_1 : Int) := of_decide_eq_true (by assumption); have q113 : x7_1 < (l0.length : Int) := of_decide_eq_true (by assumption); obtain ⟨ad113, e113, hx113_0, hx113_1, hx113_2⟩ := aW_ HR0.out x7_1 p113 q113; cases e113; replace hx113_0 := (HB.out.cell (bl_ w _ hx113_0)).trans hx113_0; replace hx113_1 := (HB.out.cell (bl_ w _ hx113_1)).trans hx113_1; replace hx113_2 := (HB.out.cell (bl_ w _ hx113_2)).trans hx113_2; replace p113 := eq_true p113; replace q113 := eq_true q113; have hcz19_0 : w18.cell? ⟨gb101, 0, none⟩ = some (.string a1_0) := (ad_ BK101.out 0).trans rfl; have hcz19_1 : w18.cell? ⟨gb101, 1, none⟩ = some (.string a1_1) := (ad_ BK101.out 1).trans rfl; have hcz19_2 : w18.cell? ⟨gb101, 2, none⟩ = some (.string a1_2) := (ad_ BK101.out 2).trans rfl; have hfz19_0 := ab_ BK101.out 0; have hfz19_1 := ab_ BK101.out 1; have hfz19_2 := ab_ BK101.out 2; have p114 : 0 ≤ (x7_1 : Int) := of_decide_eq_true (by assumption); have q114 : x7_1 < (l0.length : Int) := of_decide_eq_true (by assumption); obtain ⟨ad114, e114, hx114_0, hx114_1, hx114_2⟩ := aW_ HR0.out x7_1 p114 q114; obtain rfl : ad113 = ad114 := (by injection e114); replace hx114_0 := (HB.out.cell (bl_ w _ hx114_0)).trans hx114_0; replace hx114_1 := (HB.out.cell (bl_ w _ hx114_1)).trans hx114_1; replace hx114_2 := (HB.out.cell (bl_ w _ hx114_2)).trans hx114_2; replace p114 := eq_true p114; replace q114 := eq_true q114))
     repeat (go_quiet (first | ((with_reducible refine aE_ (b := .append) (xs := #[.tmp 24, .tmp 26]) rfl ?_); at_builtin; refine Kd.bh_ k43 (w0 := w) w.heap.size rfl (.tmp 24) (.tmp 26) 27 43 (.agg #[(.string ⟨#[]⟩), (.string ⟨#[]⟩), (.string ⟨#[]⟩)]) 48 rfl Tryd.underlying27 bG_ rfl (by decide) (by omega) u5 x5_1 (⟨a1_0, a1_1, a1_2⟩ : S43) [.string a1_0, .string a1_1, .string a1_2] (fun k_ => k_ ≠ gb101) (fun _ => False) rfl rfl ?aP (fun _ hk => hk.elim) ?aF ?aO ?aB ?aS ?aL ?_; (case aP => exact bq_ _ _ _ (⟨a1_0, a1_1, a1_2⟩ : S43)); (case aB => exact (by repeat (first | (with_reducible first | exact HB.out | apply bA_ | apply bN_ | apply bD_ | refine ac_ ?_ GE101.out) | exact HB.out))); (case aF => exact (fun k_ hk => Kd.bK_ (g := gb101) (o := .cells #[.string a1_0, .string a1_1, .string a1_2] 43 (0, 0)) (kz BK101.out) k_ hk)); (case aO => exact (rz HO_5.out)); (case aS => exact (ah_ (by repeat (first | (with_reducible first | exact HB.out | apply bA_ | apply bN_ | apply bD_ | refine ac_ ?_ GE101.out) | exact HB.out)))); (case aL => have := LMc12.out; omega); intro v111 w18 ho hb hg hat; rw [← Ny110.out] at ho; replace BK101 := Aside0.mk (bi_ (g := gb101) (o := .cells #[.string a1_0, .string a1_1, .string a1_2] 43 (0, 0)) (kz BK101.out) hg (Kd.bx_ HO_5.out (fun _ hk => hk))); replace HB := Aside0.mk (hb); have HO112 := Aside0.mk (ho); clear HO_5; clear ho hb hg hat; have p113 : 0 ≤ (x7_1 : Int) := of_decide_eq_true (by assumption); have q113 : x7_1 < (l0.length : Int) := of_decide_eq_true (by assumption); obtain ⟨ad113, e113, hx113_0, hx113_1, hx113_2⟩ := aW_ HR0.out x7_1 p113 q113; cases e113; replace hx113_0 := (HB.out.cell (bl_ w _ hx113_0)).trans hx113_0; replace hx113_1 := (HB.out.cell (bl_ w _ hx113_1)).trans hx113_1; replace hx113_2 := (HB.out.cell (bl_ w _ hx113_2)).trans hx113_2; replace p113 := eq_true p113; replace q113 := eq_true q113; have hcz19_0 : w18.cell? ⟨gb101, 0, none⟩ = some (.string a1_0) := (ad_ BK101.out 0).trans rfl; have hcz19_1 : w18.cell? ⟨gb101, 1, none⟩ = some (.string a1_1) := (ad_ BK101.out 1).trans rfl; have hcz19_2 : w18.cell? ⟨gb101, 2, none⟩ = some (.string a1_2) := (ad_ BK101.out 2).trans rfl; have hfz19_0 := ab_ BK101.out 0; have hfz19_1 := ab_ BK101.out 1; have hfz19_2 := ab_ BK101.out 2; have p114 : 0 ≤ (x7_1 : Int) := of_decide_eq_true (by assumption); have q114 : x7_1 < (l0.length : Int) := of_decide_eq_true (by assumption); obtain ⟨ad114, e114, hx114_0, hx114_1, hx114_2⟩ := aW_ HR0.out x7_1 p114 q114; obtain rfl : ad113 = ad114 := (by injection e114); replace hx114_0 := (HB.out.cell (bl_ w _ hx114_0)).trans hx114_0; replace hx114_1 := (HB.out.cell (bl_ w _ hx114_1)).trans hx114_1; replace hx114_2 := (HB.out.cell (bl_ w _ hx114_2)).trans hx114_2; replace p114 := eq_true p114; replace q114 := eq_true q114)); go_upto_if 45 with (first | ((with_reducible refine aE_ (b := .append) (xs := #[.tmp 24, .tmp 26]) rfl ?_); at_builtin; refine Kd.bh_ k43 (w0 := w) w.heap.size rfl (.tmp 24) (.tmp 26) 27 43 (.agg #[(.string ⟨#[]⟩), (.string ⟨#[]⟩), (.string ⟨#[]⟩)]) 48 rfl Tryd.underlying27 bG_ rfl (by decide) (by omega) u5 x5_1 (⟨a1_0, a1_1, a1_2⟩ : S43) [.string a1_0, .string a1_1, .string a1_2] (fun k_ => k_ ≠ gb101) (fun _ => False) rfl rfl ?aP (fun _ hk => hk.elim) ?aF ?aO ?aB ?aS ?aL ?_; (case aP => exact bq_ _ _ _ (⟨a1_0, a1_1, a1_2⟩ : S43)); (case aB => exact (by repeat (first | (with_reducible first | exact HB.out | apply bA_ | apply bN_ | apply bD_ | refine ac_ ?_ GE101.out) | exact HB.out))); (case aF => exact (fun k_ hk => Kd.bK_ (g := gb101) (o := .cells #[.string a1_0, .string a1_1, .string a1_2] 43 (0, 0)) (kz BK101.out) k_ hk)); (case aO => exact (rz HO_5.out)); (case aS => exact (ah_ (by repeat (first | (with_reducible first | exact HB.out | apply bA_ | apply bN_ | apply bD_ | refine ac_ ?_ GE101.out) | exact HB.out)))); (case aL => have := LMc12.out; omega); intro v111 w18 ho hb hg hat; rw [← Ny110.out] at ho; replace BK101 := Aside0.mk (bi_ (g := gb101) (o := .cells #[.string a1_0, .string a1_1, .string a1_2] 43 (0, 0)) (kz BK101.out) hg (Kd.bx_ HO_5.out (fun _ hk => hk))); replace HB := Aside0.mk (hb); have HO112 := Aside0.mk (ho); clear HO_5; clear ho hb hg hat; have p113 : 0 ≤ (x7_1 : Int) := of_decide_eq_true (by assumption); have q113 : x7_1 < (l0.length : Int) := of_decide_eq_true (by assumption); obtain ⟨ad113, e113, hx113_0, hx113_1, hx113_2⟩ := aW_ HR0.out x7_1 p113 q113; cases e113; replace hx113_0 := (HB.out.cell (bl_ w _ hx113_0)).trans hx113_0; replace hx113_1 := (HB.out.cell (bl_ w _ hx113_1)).trans hx113_1; replace hx113_2 := (HB.out.cell (bl_ w _ hx113_2)).trans hx113_2; replace p113 := eq_true p113; replace q113 := eq_true q113; have hcz19_0 : w18.cell? ⟨gb101, 0, none⟩ = some (.string a1_0) := (ad_ BK101.out 0).trans rfl; have hcz19_1 : w18.cell? ⟨gb101, 1, none⟩ = some (.string a1_1) := (ad_ BK101.out 1).trans rfl; have hcz19_2 : w18.cell? ⟨gb101, 2, none⟩ = some (.string a1_2) := (ad_ BK101.out 2).trans rfl; have hfz19_0 := ab_ BK101.out 0; have hfz19_1 := ab_ BK101.out 1; have hfz19_2 := ab_ BK101.out 2; have p114 : 0 ≤ (x7_1 : Int) := of_decide_eq_true (by assumption); have q114 : x7_1 < (l0.length : Int) := of_decide_eq_true (by assumption); obtain ⟨ad114, e114, hx114_0, hx114_1, hx114_2⟩ := aW_ HR0.out x7_1 p114 q114; obtain rfl : ad113 = ad114 := (by injection e114); replace hx114_0 := (HB.out.cell (bl_ w _ hx114_0)).trans hx114_0; replace hx114_1 := (HB.out.cell (bl_ w _ hx114_1)).trans hx114_1; replace hx114_2 := (HB.out.cell (bl_ w _ hx114_2)).trans hx114_2; replace p114 := eq_true p114; replace q114 := eq_true q114)))
     (try simp only [Act.put, lsa_, ls0_, ls1_])
     have H := HC16.out
     clear HC16
     by_cases c20 : ((aa_ l0 x7_1).f1).toList = a1_1.toList
     rotate_left
     ·rw [if_neg c20] at H
      have c20b0 : (((aa_ l0 x7_1).f1).toList == a1_1.toList) = false := beq_eq_false_iff_ne.mpr c20
      have c20b1 : (((aa_ l0 x7_1).f1).toList != a1_1.toList) = true := bne_iff_ne.mpr c20
      (first | rw [c20b0] | (simp only [i64_w, i32_w]; rw [c20b0]) | (simp only [c20b1, Bool.not_true, Bool.not_false]) | (simp only [c20b0, Bool.not_true, Bool.not_false]) | skip)
      by_cases c21 : y110.length < 2932031007402
      rotate_left
      ·rw [if_neg c21] at H
       exact absurd H (by simp)
      rw [if_pos c21] at H
      have LMc21 := Aside0.mk c21
      clear c21
      obtain ⟨y116, hy116⟩ : ∃ y_ : List (S43), y_ = (y110 ++ [(⟨(aa_ l0 x7_1).f0, (aa_ l0 x7_1).f1, (aa_ l0 x7_1).f2⟩ : S43)]) := ⟨_, rfl⟩
      replace H : (ap_.l0 kj6 l0 y116 true (wrap64 (x7_1 + 1)) a1_0 a1_1 a1_2) = some r := by first | (rw [hy116]; with_reducible exact H) | (have H2_ := (Option.bind_some _ _).symm.trans H; rw [hy116]; with_reducible exact H2_) | (have H2_ := (Option.bind_some _ _).symm.trans H; with_reducible exact H2_) | with_reducible exact H | (rw [hy116]; exact H) | exact H
      have Ny116 := Aside0.mk hy116
      clear hy116
      have H' := Aside0.mk H
      clear H
      have p115 : 0 ≤ (x7_1 : Int) := of_decide_eq_true (by assumption)
      have q115 : x7_1 < (l0.length : Int) := of_decide_eq_true (by assumption)
      obtain ⟨ad115, e115, hx115_0, hx115_1, hx115_2⟩ := aW_ HR0.out x7_1 p115 q115
      obtain rfl : ad113 = ad115 := (by injection e115)
      replace hx115_0 := (HB.out.cell (bl_ w _ hx115_0)).trans hx115_0
      replace hx115_1 := (HB.out.cell (bl_ w _ hx115_1)).trans hx115_1
      replace hx115_2 := (HB.out.cell (bl_ w _ hx115_2)).trans hx115_2
      replace p115 := eq_true p115
      replace q115 := eq_true q115
      go_wp2_with (first | ((with_reducible refine aE_ (b := .append) (xs := #[.tmp 46, .tmp 51]) rfl ?_); at_builtin; refine Kd.bh_ k43 (w0 := w) w.heap.size rfl (.tmp 46) (.tmp 51) 27 43 (.agg #[(.string ⟨#[]⟩), (.string ⟨#[]⟩), (.string ⟨#[]⟩)]) 48 rfl Tryd.underlying27 bG_ rfl (by decide) (by omega) v111 y110 (⟨(aa_ l0 x7_1).f0, (aa_ l0 x7_1).f1, (aa_ l0 x7_1).f2⟩ : S43) [.string ((aa_ l0 x7_1).f0), .string ((aa_ l0 x7_1).f1), .string ((aa_ l0 x7_1).f2)] (fun k_ => k_ ≠ gb101) (fun _ => False) rfl rfl ?aP (fun _ hk => hk.elim) ?aF ?aO ?aB ?aS ?aL ?_; (case aP => exact bq_ _ _ _ (⟨(aa_ l0 x7_1).f0, (aa_ l0 x7_1).f1, (aa_ l0 x7_1).f2⟩ : S43)); (case aB => exact (by repeat (first | (with_reducible first | exact HB.out | apply bA_ | apply bN_ | apply bD_ | refine ac_ ?_ GE101.out) | exact HB.out))); (case aF => exact (fun k_ hk => Kd.bK_ (g := gb101) (o := .cells #[.string a1_0, .string a1_1, .string a1_2] 43 (0, 0)) (kz BK101.out) k_ hk)); (case aO => exact (rz HO112.out)); (case aS => exact (ah_ (by repeat (first | (with_reducible first | exact HB.out | apply bA_ | apply bN_ | apply bD_ | refine ac_ ?_ GE101.out) | exact HB.out)))); (case aL => have := LMc21.out; omega); intro v117 w22 ho hb hg hat; rw [← Ny116.out] at ho; replace BK101 := Aside0.mk (bi_ (g := gb101) (o := .cells #[.string a1_0, .string a1_1, .string a1_2] 43 (0, 0)) (kz BK101.out) hg (Kd.bx_ HO112.out (fun _ hk => hk))); replace HB := Aside0.mk (hb); have HO118 := Aside0.mk (ho); clear HO112; clear ho hb hg hat))
      repeat (go_quiet (first | ((with_reducible refine aE_ (b := .append) (xs := #[.tmp 46, .tmp 51]) rfl ?_); at_builtin; refine Kd.bh_ k43 (w0 := w) w.heap.size rfl (.tmp 46) (.tmp 51) 27 43 (.agg #[(.string ⟨#[]⟩), (.string ⟨#[]⟩), (.string ⟨#[]⟩)]) 48 rfl Tryd.underlying27 bG_ rfl (by decide) (by omega) v111 y110 (⟨(aa_ l0 x7_1).f0, (aa_ l0 x7_1).f1, (aa_ l0 x7_1).f2⟩ : S43) [.string ((aa_ l0 x7_1).f0), .string ((aa_ l0 x7_1).f1), .string ((aa_ l0 x7_1).f2)] (fun k_ => k_ ≠ gb101) (fun _ => False) rfl rfl ?aP (fun _ hk => hk.elim) ?aF ?aO ?aB ?aS ?aL ?_; (case aP => exact bq_ _ _ _ (⟨(aa_ l0 x7_1).f0, (aa_ l0 x7_1).f1, (aa_ l0 x7_1).f2⟩ : S43)); (case aB => exact (by repeat (first | (with_reducible first | exact HB.out | apply bA_ | apply bN_ | apply bD_ | refine ac_ ?_ GE101.out) | exact HB.out))); (case aF => exact (fun k_ hk => Kd.bK_ (g := gb101) (o := .cells #[.string a1_0, .string a1_1, .string a1_2] 43 (0, 0)) (kz BK101.out) k_ hk)); (case aO => exact (rz HO112.out)); (case aS => exact (ah_ (by repeat (first | (with_reducible first | exact HB.out | apply bA_ | apply bN_ | apply bD_ | refine ac_ ?_ GE101.out) | exact HB.out)))); (case aL => have := LMc21.out; omega); intro v117 w22 ho hb hg hat; rw [← Ny116.out] at ho; replace BK101 := Aside0.mk (bi_ (g := gb101) (o := .cells #[.string a1_0, .string a1_1, .string a1_2] 43 (0, 0)) (kz BK101.out) hg (Kd.bx_ HO112.out (fun _ hk => hk))); replace HB := Aside0.mk (hb); have HO118 := Aside0.mk (ho); clear HO112; clear ho hb hg hat)); try go_wp2_with (first | ((with_reducible refine aE_ (b := .append) (xs := #[.tmp 46, .tmp 51]) rfl ?_); at_builtin; refine Kd.bh_ k43 (w0 := w) w.heap.size rfl (.tmp 46) (.tmp 51) 27 43 (.agg #[(.string ⟨#[]⟩), (.string ⟨#[]⟩), (.string ⟨#[]⟩)]) 48 rfl Tryd.underlying27 bG_ rfl (by decide) (by omega) v111 y110 (⟨(aa_ l0 x7_1).f0, (aa_ l0 x7_1).f1, (aa_ l0 x7_1).f2⟩ : S43) [.string ((aa_ l0 x7_1).f0), .string ((aa_ l0 x7_1).f1), .string ((aa_ l0 x7_1).f2)] (fun k_ => k_ ≠ gb101) (fun _ => False) rfl rfl ?aP (fun _ hk => hk.elim) ?aF ?aO ?aB ?aS ?aL ?_; (case aP => exact bq_ _ _ _ (⟨(aa_ l0 x7_1).f0, (aa_ l0 x7_1).f1, (aa_ l0 x7_1).f2⟩ : S43)); (case aB => exact (by repeat (first | (with_reducible first | exact HB.out | apply bA_ | apply bN_ | apply bD_ | refine ac_ ?_ GE101.out) | exact HB.out))); (case aF => exact (fun k_ hk => Kd.bK_ (g := gb101) (o := .cells #[.string a1_0, .string a1_1, .string a1_2] 43 (0, 0)) (kz BK101.out) k_ hk)); (case aO => exact (rz HO112.out)); (case aS => exact (ah_ (by repeat (first | (with_reducible first | exact HB.out | apply bA_ | apply bN_ | apply bD_ | refine ac_ ?_ GE101.out) | exact HB.out)))); (case aL => have := LMc21.out; omega); intro v117 w22 ho hb hg hat; rw [← Ny116.out] at ho; replace BK101 := Aside0.mk (bi_ (g := gb101) (o := .cells #[.string a1_0, .string a1_1, .string a1_2] 43 (0, 0)) (kz BK101.out) hg (Kd.bx_ HO112.out (fun _ hk => hk))); replace HB := Aside0.mk (hb); have HO118 := Aside0.mk (ho); clear HO112; clear ho hb hg hat)))
      go_roundg kj6
      case measure => have := HK1.out; have := HJ6.out; omega
      case rel => exact ⟨(y116), (true), (wrap64 (x7_1 + 1)), (by first | rfl | (simp; done) | (simp [*]; done)), (by first | rfl | (simp; done) | (simp [*]; done)), H', ⟨by have := HK1.out; have := HJ6.out; omega⟩, ⟨rz HO118.out⟩, ⟨by (with_reducible repeat (first | refine ag_ ?_ _ | refine ai_ ?_ | refine af_ ?_ _)); exact BK101.out⟩, ⟨by repeat (first | (with_reducible first | exact HB.out | apply bA_ | apply bN_ | apply bD_ | refine ac_ ?_ GE101.out) | exact HB.out)⟩⟩
     rw [if_pos c20] at H
     have c20b0 : (((aa_ l0 x7_1).f1).toList == a1_1.toList) = true := beq_iff_eq.mpr c20
     have c20b1 : (((aa_ l0 x7_1).f1).toList != a1_1.toList) = false := bne_eq_false_iff_eq.mpr c20
     clear c20
     (first | rw [c20b0] | (simp only [i64_w, i32_w]; rw [c20b0]) | (simp only [c20b1, Bool.not_true, Bool.not_false]) | (simp only [c20b0, Bool.not_true, Bool.not_false]) | skip)
     have H' := Aside0.mk H
     clear H
     go_wp2
     repeat (go_quiet (fail); try go_wp2)
     go_roundg kj6
     case measure => have := HK1.out; have := HJ6.out; omega
     case rel => exact ⟨(y110), (true), (wrap64 (x7_1 + 1)), (by first | rfl | (simp; done) | (simp [*]; done)), (by first | rfl | (simp; done) | (simp [*]; done)), H', ⟨by have := HK1.out; have := HJ6.out; omega⟩, ⟨rz HO112.out⟩, ⟨by (with_reducible repeat (first | refine ag_ ?_ _ | refine ai_ ?_ | refine af_ ?_ _)); exact BK101.out⟩, ⟨by repeat (first | (with_reducible first | exact HB.out | apply bA_ | apply bN_ | apply bD_ | refine ac_ ?_ GE101.out) | exact HB.out)⟩⟩
def av_.l0 : Nat → List ByteArray → List (S43) → Int → Option ((List (S43)))
 | 0, _, _, _ => none
 | k + 1, x3, x5, x6 => if x6 < (x3.length : Int) then (if 0 ≤ x6 then ((ae_.f k (rdOf ByteArray.empty x3 x6)).bind fun bt109 => (if bt109.2.2.2 = 0 then ((ap_.f k x5 bt109.1 bt109.2.1 bt109.2.2.1).bind fun t114 => (if (t114.length : Int) ≤ 32 then (av_.l0 k x3 t114 (wrap64 (x6 + 1))) else (av_.l0 k x3 x5 (wrap64 (x6 + 1))))) else (av_.l0 k x3 x5 (wrap64 (x6 + 1))))) else (none)) else (some x5)
def av_.f (k : Nat) (a0 : ByteArray) : Option ((List (S43))) := (bB_.f k a0).bind fun bt101 => (av_.l0 k bt101.1 (([] : List (S43))) 1)
set_option maxHeartbeats 8000000 in
set_option maxRecDepth 100000 in
theorem av_.calls (k : Nat) (a0 : ByteArray) (r : List (S43)) (w : World) (h : av_.f k a0 = some r) :
  Calls Tryd.prog 17 #[.string a0] w fun e w' => ∃ v0_ : Value, e = .returned (v0_) ∧ Kd.R k43 43 w' w.heap.size (fun _ => True) v0_ r ∧ Below w.heap.size w w' := by
 have hu43 := Tryd.underlying43
 have HB := Aside0.mk (Below.refl w.heap.size w)
 have H : ((bB_.f k a0).bind fun bt101 => (av_.l0 k bt101.1 (([] : List (S43))) 1)) = some r := h
 clear h
 replace H := Option.bind_eq_some_iff.mp H
 obtain ⟨⟨t101, t102⟩, A20, H⟩ := H
 (try dsimp only at H)
 have A2 := Aside0.mk A20
 clear A20
 obtain ⟨y105, hy105⟩ : ∃ y_ : List (S43), y_ = (([] : List (S43))) := ⟨_, rfl⟩
 replace H : (av_.l0 k t101 y105 1) = some r := by first | (rw [hy105]; with_reducible exact H) | (have H2_ := (Option.bind_some _ _).symm.trans H; rw [hy105]; with_reducible exact H2_) | (have H2_ := (Option.bind_some _ _).symm.trans H; with_reducible exact H2_) | with_reducible exact H | (rw [hy105]; exact H) | exact H
 have Ny105 := Aside0.mk hy105
 clear hy105
 have H' := Aside0.mk H
 clear H
 go_enter Tryd.func17, Tryd.ntmps17
 go_wp2_with (first | ((with_reducible refine az_ (f := 26) rfl ?_); refine bn_ (some 12) rfl rfl Tryd.func26 (by kernel_rfl) rfl #[.string a0] rfl (by first | rfl | (simp only [List.map_toArray, List.map_cons, List.map_nil]; first | done | rfl)) ?_; (with_reducible refine (bB_.calls k a0 t101 t102 _ A2.out).mono ?_); rintro e w3 ⟨v103, rfl, ho0, hb⟩; refine ⟨_, rfl, ?_⟩; have HO104 := Aside0.mk (Kd.bt_ ho0 (ah_ (bz HB.out))); replace HB := Aside0.mk (ak_ (bz HB.out) hb); (try clear hb); (try clear ho0)) | ((with_reducible refine be_ (N := 15) rfl ?_); refine Kd.R_lit k43 _ 43 ?hg (N := 15) ?hd (xs := ([] : List (S43))) (inner := []) (ok := fun _ => True) (okp := fun _ => True) ?hr ?hp (fun _ hk => hk) trivial (Below.refl _ _) (Nat.le_refl _) (by simp) ?_; (case hd => rfl); (case hg => rfl); (case hr => (go_simp; try rfl)); (case hp => exact (Reps.none _ _)); intro v106 w4 ho5 hb hg_ hnew_; clear hg_ hnew_; (first | rw [← Ny105.out] at ho5 | (simp only [Int.reduceToNat] at ho5; rw [← Ny105.out] at ho5)); replace HO104 := Aside0.mk (Kd.bo_ (rz HO104.out) hb); have HO107 := Aside0.mk (Kd.bt_ ho5 (ah_ (bz HB.out))); replace HB := Aside0.mk (ak_ (bz HB.out) hb); clear hb ho5))
 (try simp only [Act.put, lsa_, ls0_, ls1_])
 go_loopg [5, 6] k (fun kq v5 v6 w' => ∃ (x5_1 : List (S43)) (x6_1 : Int), v6 = .int .i64 x6_1 ∧ Aside0 (av_.l0 kq t101 x5_1 x6_1 = some r) ∧ Aside0 (kq ≤ k) ∧ Aside0 (Kd.R Kd.string 9 w' w.heap.size (fun _ => True) v103 t101) ∧ Aside0 (Kd.R k43 43 w' w.heap.size (fun _ => True) v5 x5_1) ∧ Aside0 (Below w.heap.size w w'))
 case atStart => exact ⟨(y105), (1), (by first | rfl | (simp; done) | (simp [*]; done)), H', ⟨Nat.le_refl _⟩, ⟨rz HO104.out⟩, ⟨rz HO107.out⟩, ⟨bz HB.out⟩⟩
 case round =>
  clear H'
  obtain ⟨x5_1, x6_1, rfl, HA, HK1, HO_3, HO_5, HB⟩ := hrel
  cases gk with
  | zero => exact absurd HA.out (by simp [av_.l0])
  | succ k1 =>
   have H := HA.out
   clear HA
   simp only [av_.l0] at H
   by_cases c6 : x6_1 < (t101.length : Int)
   rotate_left
   ·rw [if_neg c6] at H
    have c6b0 : decide (x6_1 < (t101.length : Int)) = false := decide_eq_false c6
    clear c6
    obtain rfl := Option.some.inj H
    obtain ⟨Ao22, co22, eo22⟩ := Kd.by_ HO_3.out
    subst eo22
    go_wp2
    go_ret
    exact ⟨_, by first | rfl | (simp [*, as_, au_] <;> rfl), rz HO_5.out, bz HB.out⟩
   rw [if_pos c6] at H
   have c6b0 : decide (x6_1 < (t101.length : Int)) = true := decide_eq_true c6
   clear c6
   by_cases c7 : 0 ≤ x6_1
   rotate_left
   ·rw [if_neg c7] at H
    exact absurd H (by simp)
   rw [if_pos c7] at H
   have c7b0 : decide (0 ≤ x6_1) = true := decide_eq_true c7
   clear c7
   replace H := Option.bind_eq_some_iff.mp H
   obtain ⟨⟨t109, t110, t111, t112⟩, A80, H⟩ := H
   (try dsimp only at H)
   have A8 := Aside0.mk A80
   clear A80
   have HC9 := Aside0.mk H
   clear H
   obtain ⟨Ao10, co10, eo10⟩ := Kd.by_ HO_3.out
   subst eo10
   have p108 : 0 ≤ (x6_1 : Int) := of_decide_eq_true (by assumption)
   have q108 : x6_1 < (t101.length : Int) := of_decide_eq_true (by assumption)
   obtain ⟨ad108, e108, hx108_0⟩ := Kd.bW_ (Kd.aQ_ HO_3.out).2.2 x6_1 p108 q108
   cases e108
   replace p108 := eq_true p108
   replace q108 := eq_true q108
   go_upto_if 31 with (first | ((with_reducible refine az_ (f := 27) rfl ?_); refine bn_ (some 27) rfl rfl Tryd.func27 (by kernel_rfl) rfl #[.string (rdOf ByteArray.empty t101 x6_1)] rfl (by first | rfl | (simp only [List.map_toArray, List.map_cons, List.map_nil]; first | done | rfl)) ?_; (with_reducible refine (ae_.calls k1 (rdOf ByteArray.empty t101 x6_1) t109 t110 t111 t112 _ A8.out).mono ?_); rintro e w11 ⟨rfl, hb⟩; refine ⟨_, rfl, ?_⟩; replace HO_3 := Aside0.mk (Kd.bo_ (rz HO_3.out) hb); replace HO_5 := Aside0.mk (Kd.bo_ (rz HO_5.out) hb); replace HB := Aside0.mk (ak_ (bz HB.out) hb); (try clear hb)) | ((with_reducible refine be_ (N := 7) rfl ?_); refine bm_ ?hg (N := 7) ?hd (cs := #[.string (⟨#[]⟩ : ByteArray), .string (⟨#[]⟩ : ByteArray), .string (⟨#[]⟩ : ByteArray)]) (t := 43) ?hr ?_; (case hd => rfl); (case hg => rfl); (case hr => (go_simp; try rfl)); intro gb113 hg w12 hbox hb; replace HO_3 := Aside0.mk (Kd.bo_ (rz HO_3.out) hb); replace HO_5 := Aside0.mk (Kd.bo_ (Kd.R_elderB (rz HO_5.out) gb113 (Nat.le_of_eq hg.symm)) hb); have BK113 := Aside0.mk (hbox); have GW113 := Aside0.mk ((by rw [hg]; exact (ah_ (bz HB.out)) : w.heap.size ≤ gb113)); have GE113 := Aside0.mk ((by rw [hg]; exact (ah_ (bz HB.out)) : w.heap.size ≤ gb113)); replace HB := Aside0.mk (ak_ (bz HB.out) hb); clear hb hbox hg; have hcz13_0 : w12.cell? ⟨gb113, 0, none⟩ = some (.string (⟨#[]⟩ : ByteArray)) := (ad_ BK113.out 0).trans rfl; have hcz13_1 : w12.cell? ⟨gb113, 1, none⟩ = some (.string (⟨#[]⟩ : ByteArray)) := (ad_ BK113.out 1).trans rfl; have hcz13_2 : w12.cell? ⟨gb113, 2, none⟩ = some (.string (⟨#[]⟩ : ByteArray)) := (ad_ BK113.out 2).trans rfl; have hfz13_0 := ab_ BK113.out 0; have hfz13_1 := ab_ BK113.out 1; have hfz13_2 := ab_ BK113.out 2))
   (try simp only [Act.put, lsa_, ls0_, ls1_])
   have H := HC9.out
   clear HC9
   by_cases c14 : t112 = 0
   rotate_left
   ·rw [if_neg c14] at H
    have c14b0 : (t112 == 0) = false := beq_eq_false_iff_ne.mpr c14
    have c14b1 : (t112 != 0) = true := bne_iff_ne.mpr c14
    (first | rw [c14b0] | (simp only [i64_w, i32_w]; rw [c14b0]) | (simp only [c14b1, Bool.not_true, Bool.not_false]) | (simp only [c14b0, Bool.not_true, Bool.not_false]) | skip)
    have H' := Aside0.mk H
    clear H
    go_wp2
    go_roundg k1
    case measure => have := HK1.out; omega
    case rel => exact ⟨(x5_1), (wrap64 (x6_1 + 1)), (by first | rfl | (simp; done) | (simp [*]; done)), H', ⟨by have := HK1.out; omega⟩, ⟨rz (Kd.bf_ (Kd.R_far (p := ⟨gb113, 2, none⟩) (Kd.R_far (p := ⟨gb113, 1, none⟩) (Kd.R_far (p := ⟨gb113, 0, none⟩) (Kd.R_types HO_3.out BK113.out (by decide)) (fun _ hk => hk.2) (.string t109)) (fun _ hk => hk.2) (.string t110)) (fun _ hk => hk.2) (.string t111)) (fun _ hk => trivial))⟩, ⟨rz (Kd.bf_ (Kd.R_far (p := ⟨gb113, 2, none⟩) (Kd.R_far (p := ⟨gb113, 1, none⟩) (Kd.R_far (p := ⟨gb113, 0, none⟩) (Kd.bf_ HO_5.out (fun k_ hk => (⟨hk, hk.2⟩ : _ ∧ k_ ≠ gb113))) (fun _ hk => hk.2) (.string t109)) (fun _ hk => hk.2) (.string t110)) (fun _ hk => hk.2) (.string t111)) (fun _ hk => trivial))⟩, ⟨by repeat (first | (with_reducible first | exact HB.out | apply bA_ | apply bN_ | apply bD_ | refine ac_ ?_ GE113.out) | exact HB.out)⟩⟩
   rw [if_pos c14] at H
   have c14b0 : (t112 == 0) = true := beq_iff_eq.mpr c14
   have c14b1 : (t112 != 0) = false := bne_eq_false_iff_eq.mpr c14
   clear c14
   (first | rw [c14b0] | (simp only [i64_w, i32_w]; rw [c14b0]) | (simp only [c14b1, Bool.not_true, Bool.not_false]) | (simp only [c14b0, Bool.not_true, Bool.not_false]) | skip)
   replace H := Option.bind_eq_some_iff.mp H
   obtain ⟨t114, A150, H⟩ := H
   (try dsimp only at H)
   have A15 := Aside0.mk A150
   clear A150
   have HC16 := Aside0.mk H
   clear H
   have hcz17_0 : w12.cell? ⟨gb113, 0, none⟩ = some (.string (⟨#[]⟩ : ByteArray)) := (ad_ BK113.out 0).trans rfl
   have hcz17_1 : w12.cell? ⟨gb113, 1, none⟩ = some (.string (⟨#[]⟩ : ByteArray)) := (ad_ BK113.out 1).trans rfl
   have hcz17_2 : w12.cell? ⟨gb113, 2, none⟩ = some (.string (⟨#[]⟩ : ByteArray)) := (ad_ BK113.out 2).trans rfl
   have hfz17_0 := ab_ BK113.out 0
   have hfz17_1 := ab_ BK113.out 1
   have hfz17_2 := ab_ BK113.out 2
   obtain ⟨Ao18, co18, eo18⟩ := Kd.by_ HO_5.out
   subst eo18
   go_upto_if 37 with (first | ((with_reducible refine az_ (f := 39) rfl ?_); refine bn_ (some 34) rfl rfl Tryd.func39 (by kernel_rfl) rfl #[.slice Ao18 x5_1.length co18, .agg #[.string t109, .string t110, .string t111]] rfl (by first | rfl | (simp only [List.map_toArray, List.map_cons, List.map_nil]; first | done | rfl)) ?_; (with_reducible refine (ap_.calls k1 _ _ x5_1 t109 t110 t111 t114 _ ?side1 ?side2 A15.out).mono ?_); (case side1 => refine (Kd.aQ_ (e := 43) (base := w.heap.size) (ok := fun k_ => (True ∧ k_ ≠ gb113)) (n := x5_1.length) (c := co18) ?_).2.2; exact (rz (Kd.bf_ (Kd.R_far (p := ⟨gb113, 2, none⟩) (Kd.R_far (p := ⟨gb113, 1, none⟩) (Kd.R_far (p := ⟨gb113, 0, none⟩) (Kd.bf_ HO_5.out (fun k_ hk => (⟨hk, hk.2⟩ : _ ∧ k_ ≠ gb113))) (fun _ hk => hk.2) (.string t109)) (fun _ hk => hk.2) (.string t110)) (fun _ hk => hk.2) (.string t111)) (fun _ h_ => h_.1)))); (case side2 => exact (Kd.aQ_ HO_5.out).2.1); rintro e w19 ⟨v115, rfl, ho0, hb⟩; refine ⟨_, rfl, ?_⟩; replace HO_3 := Aside0.mk (Kd.bo_ (rz (Kd.bf_ (Kd.R_far (p := ⟨gb113, 2, none⟩) (Kd.R_far (p := ⟨gb113, 1, none⟩) (Kd.R_far (p := ⟨gb113, 0, none⟩) (Kd.R_types HO_3.out BK113.out (by decide)) (fun _ hk => hk.2) (.string t109)) (fun _ hk => hk.2) (.string t110)) (fun _ hk => hk.2) (.string t111)) (fun _ h_ => h_.1))) hb); have HO116 := Aside0.mk (Kd.bt_ (Kd.R_newB (Kd.R_new' ho0 (Kd.R_lt (rz (Kd.bf_ (Kd.R_far (p := ⟨gb113, 2, none⟩) (Kd.R_far (p := ⟨gb113, 1, none⟩) (Kd.R_far (p := ⟨gb113, 0, none⟩) (Kd.bf_ HO_5.out (fun k_ hk => (⟨hk, hk.2⟩ : _ ∧ k_ ≠ gb113))) (fun _ hk => hk.2) (.string t109)) (fun _ hk => hk.2) (.string t110)) (fun _ hk => hk.2) (.string t111)) (fun _ h_ => h_.1))))) (g := gb113) (o := .cells #[.string t109, .string t110, .string t111] 43 (0, 0)) (by (with_reducible repeat (first | refine ag_ ?_ _ | refine ai_ ?_ | refine af_ ?_ _)); refine aO_ (cs := #[.string t109, .string t110, .string (⟨#[]⟩ : ByteArray)]) ?_ 2 _ rfl; (with_reducible repeat (first | refine ag_ ?_ _ | refine ai_ ?_ | refine af_ ?_ _)); refine aO_ (cs := #[.string t109, .string (⟨#[]⟩ : ByteArray), .string (⟨#[]⟩ : ByteArray)]) ?_ 1 _ rfl; (with_reducible repeat (first | refine ag_ ?_ _ | refine ai_ ?_ | refine af_ ?_ _)); refine aO_ (cs := #[.string (⟨#[]⟩ : ByteArray), .string (⟨#[]⟩ : ByteArray), .string (⟨#[]⟩ : ByteArray)]) ?_ 0 _ rfl; (with_reducible repeat (first | refine ag_ ?_ _ | refine ai_ ?_ | refine af_ ?_ _)); exact BK113.out)) (ah_ (by repeat (first | (with_reducible first | exact HB.out | apply bA_ | apply bN_ | apply bD_ | refine ac_ ?_ GE113.out) | exact HB.out)))); replace HO_5 := Aside0.mk (Kd.R_elder' (rz (Kd.bf_ (Kd.R_far (p := ⟨gb113, 2, none⟩) (Kd.R_far (p := ⟨gb113, 1, none⟩) (Kd.R_far (p := ⟨gb113, 0, none⟩) (Kd.bf_ HO_5.out (fun k_ hk => (⟨hk, hk.2⟩ : _ ∧ k_ ≠ gb113))) (fun _ hk => hk.2) (.string t109)) (fun _ hk => hk.2) (.string t110)) (fun _ hk => hk.2) (.string t111)) (fun _ h_ => h_.1))) (Kd.R_base ho0) hb); replace BK113 := Aside0.mk (ba_ (g := gb113) (o := .cells #[.string t109, .string t110, .string t111] 43 (0, 0)) (by (with_reducible repeat (first | refine ag_ ?_ _ | refine ai_ ?_ | refine af_ ?_ _)); refine aO_ (cs := #[.string t109, .string t110, .string (⟨#[]⟩ : ByteArray)]) ?_ 2 _ rfl; (with_reducible repeat (first | refine ag_ ?_ _ | refine ai_ ?_ | refine af_ ?_ _)); refine aO_ (cs := #[.string t109, .string (⟨#[]⟩ : ByteArray), .string (⟨#[]⟩ : ByteArray)]) ?_ 1 _ rfl; (with_reducible repeat (first | refine ag_ ?_ _ | refine ai_ ?_ | refine af_ ?_ _)); refine aO_ (cs := #[.string (⟨#[]⟩ : ByteArray), .string (⟨#[]⟩ : ByteArray), .string (⟨#[]⟩ : ByteArray)]) ?_ 0 _ rfl; (with_reducible repeat (first | refine ag_ ?_ _ | refine ai_ ?_ | refine af_ ?_ _)); exact BK113.out) hb); replace HB := Aside0.mk (ak_ (by repeat (first | (with_reducible first | exact HB.out | apply bA_ | apply bN_ | apply bD_ | refine ac_ ?_ GE113.out) | exact HB.out)) hb); (try clear hb); (try clear ho0); obtain ⟨Ao20, co20, eo20⟩ := Kd.by_ HO116.out; subst eo20))
   (try simp only [Act.put, lsa_, ls0_, ls1_])
   have H := HC16.out
   clear HC16
   by_cases c21 : (t114.length : Int) ≤ 32
   rotate_left
   ·rw [if_neg c21] at H
    have c21b0 : decide ((t114.length : Int) ≤ 32) = false := decide_eq_false c21
    have c21b1 : decide (t114.length ≤ 32) = false := decide_eq_false (by omega)
    clear c21
    (first | rw [c21b0] | (simp only [i64_w, i32_w]; rw [c21b0]) | (simp only [c21b1, Bool.not_true, Bool.not_false]) | (simp only [c21b0, Bool.not_true, Bool.not_false]) | skip)
    have H' := Aside0.mk H
    clear H
    go_wp2
    go_roundg k1
    case measure => have := HK1.out; omega
    case rel => exact ⟨(x5_1), (wrap64 (x6_1 + 1)), (by first | rfl | (simp; done) | (simp [*]; done)), H', ⟨by have := HK1.out; omega⟩, ⟨rz HO_3.out⟩, ⟨rz (Kd.bf_ HO_5.out (fun _ hk => trivial))⟩, ⟨by repeat (first | (with_reducible first | exact HB.out | apply bA_ | apply bN_ | apply bD_ | refine ac_ ?_ GE113.out) | exact HB.out)⟩⟩
   rw [if_pos c21] at H
   have c21b0 : decide ((t114.length : Int) ≤ 32) = true := decide_eq_true c21
   have c21b1 : decide (t114.length ≤ 32) = true := decide_eq_true (by omega)
   clear c21
   (first | rw [c21b0] | (simp only [i64_w, i32_w]; rw [c21b0]) | (simp only [c21b1, Bool.not_true, Bool.not_false]) | (simp only [c21b0, Bool.not_true, Bool.not_false]) | skip)
   have H' := Aside0.mk H
   clear H
   go_wp2
   go_roundg k1
   case measure => have := HK1.out; omega
   case rel => exact ⟨(t114), (wrap64 (x6_1 + 1)), (by first | rfl | (simp; done) | (simp [*]; done)), H', ⟨by have := HK1.out; omega⟩, ⟨rz HO_3.out⟩, ⟨rz (Kd.bf_ HO116.out (fun _ hk => trivial))⟩, ⟨by repeat (first | (with_reducible first | exact HB.out | apply bA_ | apply bN_ | apply bD_ | refine ac_ ?_ GE113.out) | exact HB.out)⟩⟩
end Go.Proofs.YtjebkmfljcanlaaDoor.Q
namespace Go.Proofs
open Go.Shelf
def Tryd.lays106_ren : Go.Shelf.Ren := ⟨fun | 106 => 60 | 213 => 80 | 265 => 95 | n => n, fun | 9 => 9 | 3 => 3 | n => n, fun | n => n⟩
theorem Tryd.lays106 : Go.Proofs.Lays.n106 Tryd.prog Tryd.lays106_ren := {
 mixed := by kernel_rfl
 f106 := Tryd.func60.trans (congrArg some (by kernel_rfl))
 f213 := Tryd.func80.trans (congrArg some (by kernel_rfl))
 f265 := Tryd.func95.trans (congrArg some (by kernel_rfl))
 t3 := Tryd.underlying3
 a3 := Tryd.isAgg3
 z3 := Tryd.sizeOf3
 v3 := Tryd.zeroValue3
 t9 := Tryd.underlying9
 a9 := Tryd.isAgg9
 z9 := Tryd.sizeOf9
 v9 := Tryd.zeroValue9 }
open Go.RowKit in
theorem Tryd.strings_Compare (a b : ByteArray) (w : World) :
  Calls Tryd.prog 60 #[.string a, .string b] w fun e w' => e = .returned (.int .i64 (Lib.compareBytes a.data.toList b.data.toList)) ∧ w' = w := Any.strings_Compare Tryd.lays106 a b w
def Tryd.laysM173_ren : Go.Shelf.Ren := ⟨fun | 173 => 79 | 246 => 94 | 283 => 106 | 284 => 107 | 285 => 108 | 286 => 109 | 129 => 119 | 317 => 118 | 318 => 120 | 319 => 121 | 320 => 122 | 337 => 123 | 338 => 124 | n => n, fun | 2 => 2 | 3 => 3 | 9 => 9 | 4 => 4 | 171 => 113 | 0 => 0 | 53 => 79 | 37 => 33 | 5 => 5 | 173 => 116 | 212 => 132 | 51 => 128 | 20 => 20 | 213 => 133 | 46 => 85 | 232 => 137 | 233 => 138 | n => n, fun | 17 => 3 | 18 => 4 | 19 => 5 | n => n⟩
theorem Tryd.laysM173 : Go.Proofs.LaysM.n173 Tryd.prog Tryd.laysM173_ren := {
 mixed := by kernel_rfl
 f129 := Tryd.func119.trans (congrArg some (by kernel_rfl))
 f173 := Tryd.func79.trans (congrArg some (by kernel_rfl))
 f246 := Tryd.func94.trans (congrArg some (by kernel_rfl))
 f283 := Tryd.func106.trans (congrArg some (by kernel_rfl))
 f284 := Tryd.func107.trans (congrArg some (by kernel_rfl))
 f285 := Tryd.func108.trans (congrArg some (by kernel_rfl))
 f286 := Tryd.func109.trans (congrArg some (by kernel_rfl))
 f317 := Tryd.func118.trans (congrArg some (by kernel_rfl))
 f318 := Tryd.func120.trans (congrArg some (by kernel_rfl))
 f319 := Tryd.func121.trans (congrArg some (by kernel_rfl))
 f320 := Tryd.func122.trans (congrArg some (by kernel_rfl))
 f337 := Tryd.func123.trans (congrArg some (by kernel_rfl))
 f338 := Tryd.func124.trans (congrArg some (by kernel_rfl))
 t0 := Tryd.underlying0
 a0 := Tryd.isAgg0
 z0 := Tryd.sizeOf0
 v0 := Tryd.zeroValue0
 t2 := Tryd.underlying2
 a2 := Tryd.isAgg2
 z2 := Tryd.sizeOf2
 v2 := Tryd.zeroValue2
 t3 := Tryd.underlying3
 a3 := Tryd.isAgg3
 z3 := Tryd.sizeOf3
 v3 := Tryd.zeroValue3
 t4 := Tryd.underlying4
 a4 := Tryd.isAgg4
 z4 := Tryd.sizeOf4
 v4 := Tryd.zeroValue4
 t5 := Tryd.underlying5
 a5 := Tryd.isAgg5
 z5 := Tryd.sizeOf5
 v5 := Tryd.zeroValue5
 t9 := Tryd.underlying9
 a9 := Tryd.isAgg9
 z9 := Tryd.sizeOf9
 v9 := Tryd.zeroValue9
 t20 := Tryd.underlying20
 a20 := Tryd.isAgg20
 z20 := Tryd.sizeOf20
 v20 := Tryd.zeroValue20
 t37 := Tryd.underlying33
 a37 := Tryd.isAgg33
 z37 := Tryd.sizeOf33
 v37 := Tryd.zeroValue33
 t46 := Tryd.underlying85
 a46 := Tryd.isAgg85
 z46 := Tryd.sizeOf85
 v46 := Tryd.zeroValue85
 t51 := Tryd.underlying128
 a51 := Tryd.isAgg128
 z51 := Tryd.sizeOf128
 v51 := Tryd.zeroValue128
 t53 := Tryd.underlying79
 a53 := Tryd.isAgg79
 z53 := Tryd.sizeOf79
 v53 := Tryd.zeroValue79
 t171 := Tryd.underlying113
 a171 := Tryd.isAgg113
 z171 := Tryd.sizeOf113
 v171 := Tryd.zeroValue113
 t173 := Tryd.underlying116
 a173 := Tryd.isAgg116
 z173 := Tryd.sizeOf116
 v173 := Tryd.zeroValue116
 t212 := Tryd.underlying132
 a212 := Tryd.isAgg132
 z212 := Tryd.sizeOf132
 v212 := Tryd.zeroValue132
 t213 := Tryd.underlying133
 a213 := Tryd.isAgg133
 z213 := Tryd.sizeOf133
 t232 := Tryd.underlying137
 a232 := Tryd.isAgg137
 z232 := Tryd.sizeOf137
 v232 := Tryd.zeroValue137
 t233 := Tryd.underlying138
 a233 := Tryd.isAgg138
 z233 := Tryd.sizeOf138
 v233 := Tryd.zeroValue138
 g17 := by kernel_rfl
 g18 := by kernel_rfl
 g19 := by kernel_rfl
 i0 := by kernel_rfl
 i2 := by kernel_rfl
 i3 := by kernel_rfl
 i4 := by kernel_rfl
 i5 := by kernel_rfl
 i9 := by kernel_rfl
 i20 := by kernel_rfl
 i37 := by kernel_rfl
 i46 := by kernel_rfl
 i51 := by kernel_rfl
 i53 := by kernel_rfl
 i171 := by kernel_rfl
 i173 := by kernel_rfl
 i212 := by kernel_rfl
 i232 := by kernel_rfl
 i233 := by kernel_rfl
 m17 := by kernel_rfl
 m18 := by kernel_rfl
 m19 := by kernel_rfl }
open Go.RowKit Go.Sort Go.Lib in
theorem Tryd.strconv_FormatInt_10 (n : Int) (h0 : -9223372036854775808 ≤ n) (h1 : n ≤ 9223372036854775807) (w : World) (htab : Lib.TabIs Tryd.prog w "internal/strconv.uint64pow10" .u64 Lib.pow10Tab) :
  Calls Tryd.prog 79 #[.int .i64 n, .int .i64 10] w fun e w' => e = .returned (.string ⟨(Lib.itoa n).toArray⟩) ∧ ∃ k os, w' = grow (w.drewN k) os := Any.strconv_FormatInt_10 Tryd.laysM173 n h0 h1 w htab
def Tryd.lays144_ren : Go.Shelf.Ren := ⟨fun | 144 => 76 | 143 => 73 | 219 => 93 | 217 => 102 | 225 => 103 | 224 => 104 | 267 => 105 | 266 => 116 | 314 => 117 | n => n, fun | 9 => 9 | 4 => 4 | 3 => 3 | 5 => 5 | 46 => 85 | 146 => 129 | 51 => 128 | n => n, fun | 1 => 0 | n => n⟩
theorem Tryd.lays144 : Go.Proofs.Lays.n144 Tryd.prog Tryd.lays144_ren := {
 mixed := by kernel_rfl
 f143 := Tryd.func73.trans (congrArg some (by kernel_rfl))
 f144 := Tryd.func76.trans (congrArg some (by kernel_rfl))
 f217 := Tryd.func102.trans (congrArg some (by kernel_rfl))
 f219 := Tryd.func93.trans (congrArg some (by kernel_rfl))
 f224 := Tryd.func104.trans (congrArg some (by kernel_rfl))
 f225 := Tryd.func103.trans (congrArg some (by kernel_rfl))
 f266 := Tryd.func116.trans (congrArg some (by kernel_rfl))
 f267 := Tryd.func105.trans (congrArg some (by kernel_rfl))
 f314 := Tryd.func117.trans (congrArg some (by kernel_rfl))
 t3 := Tryd.underlying3
 a3 := Tryd.isAgg3
 z3 := Tryd.sizeOf3
 v3 := Tryd.zeroValue3
 t4 := Tryd.underlying4
 a4 := Tryd.isAgg4
 z4 := Tryd.sizeOf4
 v4 := Tryd.zeroValue4
 t5 := Tryd.underlying5
 a5 := Tryd.isAgg5
 z5 := Tryd.sizeOf5
 v5 := Tryd.zeroValue5
 t9 := Tryd.underlying9
 a9 := Tryd.isAgg9
 z9 := Tryd.sizeOf9
 v9 := Tryd.zeroValue9
 t46 := Tryd.underlying85
 a46 := Tryd.isAgg85
 z46 := Tryd.sizeOf85
 v46 := Tryd.zeroValue85
 t51 := Tryd.underlying128
 a51 := Tryd.isAgg128
 z51 := Tryd.sizeOf128
 v51 := Tryd.zeroValue128
 t146 := Tryd.underlying129
 a146 := Tryd.isAgg129
 z146 := Tryd.sizeOf129
 v146 := Tryd.zeroValue129
 g1 := by kernel_rfl }
open Go.RowKit Go.Lib in
theorem Tryd.strings_Contains_one (s : ByteArray) (c : UInt8) (w : World) :
  Calls Tryd.prog 76 #[.string s, .string ⟨#[c]⟩] w fun e w' => e = .returned (.bool (decide (0 ≤ Lib.indexByte s.data.toList c))) ∧ w' = w := Any.strings_Contains_one Tryd.lays144 s c w
open Go.RowKit Go.Lib in
theorem Tryd.strings_Contains (s sub : ByteArray) (m : Int) (w : World) (hs : s.size < 4294967281) (hm : w.cell? ⟨0, 0, none⟩ = some (.int .i64 m)) :
  Calls Tryd.prog 76 #[.string s, .string sub] w fun e w' => e = .returned (.bool (Lib.contains s.data.toList sub.data.toList)) ∧ w' = w := Any.strings_Contains Tryd.lays144 s sub m w hs hm
def Tryd.laysM219_ren : Go.Shelf.Ren := ⟨fun | 219 => 93 | 217 => 102 | 225 => 103 | 224 => 104 | 267 => 105 | 266 => 116 | 314 => 117 | n => n, fun | 9 => 9 | 3 => 3 | 4 => 4 | 5 => 5 | 46 => 85 | 146 => 129 | 51 => 128 | n => n, fun | 1 => 0 | n => n⟩
theorem Tryd.laysM219 : Go.Proofs.LaysM.n219 Tryd.prog Tryd.laysM219_ren := {
 mixed := by kernel_rfl
 f217 := Tryd.func102.trans (congrArg some (by kernel_rfl))
 f219 := Tryd.func93.trans (congrArg some (by kernel_rfl))
 f224 := Tryd.func104.trans (congrArg some (by kernel_rfl))
 f225 := Tryd.func103.trans (congrArg some (by kernel_rfl))
 f266 := Tryd.func116.trans (congrArg some (by kernel_rfl))
 f267 := Tryd.func105.trans (congrArg some (by kernel_rfl))
 f314 := Tryd.func117.trans (congrArg some (by kernel_rfl))
 t3 := Tryd.underlying3
 a3 := Tryd.isAgg3
 z3 := Tryd.sizeOf3
 v3 := Tryd.zeroValue3
 t4 := Tryd.underlying4
 a4 := Tryd.isAgg4
 z4 := Tryd.sizeOf4
 v4 := Tryd.zeroValue4
 t5 := Tryd.underlying5
 a5 := Tryd.isAgg5
 z5 := Tryd.sizeOf5
 v5 := Tryd.zeroValue5
 t9 := Tryd.underlying9
 a9 := Tryd.isAgg9
 z9 := Tryd.sizeOf9
 v9 := Tryd.zeroValue9
 t46 := Tryd.underlying85
 a46 := Tryd.isAgg85
 z46 := Tryd.sizeOf85
 v46 := Tryd.zeroValue85
 t51 := Tryd.underlying128
 a51 := Tryd.isAgg128
 z51 := Tryd.sizeOf128
 v51 := Tryd.zeroValue128
 t146 := Tryd.underlying129
 a146 := Tryd.isAgg129
 z146 := Tryd.sizeOf129
 v146 := Tryd.zeroValue129
 g1 := by kernel_rfl
 i3 := by kernel_rfl
 i4 := by kernel_rfl
 i5 := by kernel_rfl
 i9 := by kernel_rfl
 i46 := by kernel_rfl
 i51 := by kernel_rfl
 i146 := by kernel_rfl
 m1 := by kernel_rfl
 s1_3 := fun w h => Go.Proofs.cell_of_shapedOpen_int (zero := #[.int .i64 0]) (t := 3) h (of_decide_eq_true (by kernel_rfl)) (by kernel_rfl) rfl (by kernel_rfl) (by kernel_rfl) Tryd.underlying3 }
def Tryd.lays146_ren : Go.Shelf.Ren := ⟨fun | 146 => 28 | 221 => 50 | 268 => 71 | 138 => 72 | 143 => 73 | 195 => 90 | 197 => 91 | 218 => 92 | 219 => 93 | 260 => 101 | 217 => 102 | 225 => 103 | 224 => 104 | 267 => 105 | 266 => 116 | 314 => 117 | n => n, fun | 9 => 9 | 31 => 39 | 3 => 3 | 4 => 4 | 0 => 0 | 105 => 102 | 21 => 21 | 5 => 5 | 46 => 85 | 119 => 124 | 139 => 127 | 138 => 126 | 146 => 129 | 51 => 128 | n => n, fun | 1 => 0 | 3 => 1 | 4 => 2 | n => n⟩
theorem Tryd.lays146 : Go.Proofs.Lays.n146 Tryd.prog Tryd.lays146_ren := {
 mixed := by kernel_rfl
 f138 := Tryd.func72.trans (congrArg some (by kernel_rfl))
 f143 := Tryd.func73.trans (congrArg some (by kernel_rfl))
 f146 := Tryd.func28.trans (congrArg some (by kernel_rfl))
 f195 := Tryd.func90.trans (congrArg some (by kernel_rfl))
 f197 := Tryd.func91.trans (congrArg some (by kernel_rfl))
 f217 := Tryd.func102.trans (congrArg some (by kernel_rfl))
 f218 := Tryd.func92.trans (congrArg some (by kernel_rfl))
 f219 := Tryd.func93.trans (congrArg some (by kernel_rfl))
 f221 := Tryd.func50.trans (congrArg some (by kernel_rfl))
 f224 := Tryd.func104.trans (congrArg some (by kernel_rfl))
 f225 := Tryd.func103.trans (congrArg some (by kernel_rfl))
 f260 := Tryd.func101.trans (congrArg some (by kernel_rfl))
 f266 := Tryd.func116.trans (congrArg some (by kernel_rfl))
 f267 := Tryd.func105.trans (congrArg some (by kernel_rfl))
 f268 := Tryd.func71.trans (congrArg some (by kernel_rfl))
 f314 := Tryd.func117.trans (congrArg some (by kernel_rfl))
 t0 := Tryd.underlying0
 a0 := Tryd.isAgg0
 z0 := Tryd.sizeOf0
 v0 := Tryd.zeroValue0
 t3 := Tryd.underlying3
 a3 := Tryd.isAgg3
 z3 := Tryd.sizeOf3
 v3 := Tryd.zeroValue3
 t4 := Tryd.underlying4
 a4 := Tryd.isAgg4
 z4 := Tryd.sizeOf4
 v4 := Tryd.zeroValue4
 t5 := Tryd.underlying5
 a5 := Tryd.isAgg5
 z5 := Tryd.sizeOf5
 v5 := Tryd.zeroValue5
 t9 := Tryd.underlying9
 a9 := Tryd.isAgg9
 z9 := Tryd.sizeOf9
 v9 := Tryd.zeroValue9
 t21 := Tryd.underlying21
 a21 := Tryd.isAgg21
 z21 := Tryd.sizeOf21
 v21 := Tryd.zeroValue21
 t31 := Tryd.underlying39
 a31 := Tryd.isAgg39
 z31 := Tryd.sizeOf39
 v31 := Tryd.zeroValue39
 t46 := Tryd.underlying85
 a46 := Tryd.isAgg85
 z46 := Tryd.sizeOf85
 v46 := Tryd.zeroValue85
 t51 := Tryd.underlying128
 a51 := Tryd.isAgg128
 z51 := Tryd.sizeOf128
 v51 := Tryd.zeroValue128
 t105 := Tryd.underlying102
 a105 := Tryd.isAgg102
 z105 := Tryd.sizeOf102
 v105 := Tryd.zeroValue102
 t119 := Tryd.underlying124
 a119 := Tryd.isAgg124
 z119 := Tryd.sizeOf124
 t138 := Tryd.underlying126
 a138 := Tryd.isAgg126
 z138 := Tryd.sizeOf126
 v138 := Tryd.zeroValue126
 t139 := Tryd.underlying127
 a139 := Tryd.isAgg127
 z139 := Tryd.sizeOf127
 v139 := Tryd.zeroValue127
 t146 := Tryd.underlying129
 a146 := Tryd.isAgg129
 z146 := Tryd.sizeOf129
 v146 := Tryd.zeroValue129
 g1 := by kernel_rfl
 g3 := by kernel_rfl
 g4 := by kernel_rfl }
open Go.RowKit Go.Lib in
theorem Tryd.strings_Split (s sep : ByteArray) (m : Int) (w : World) (hs : s.size < 4294967281) (hm : w.cell? ⟨0, 0, none⟩ = some (.int .i64 m)) (h1 : 1 ≤ sep.size) :
  Calls Tryd.prog 28 #[.string s, .string sep] w fun e w' =>
   e = .returned (.slice (some ⟨w.heap.size, 0, none⟩) (Lib.countB s sep + 1) (Lib.countB s sep + 1)) ∧ w' = w.alloc (.cells ((Lib.splitB sep 0 (Lib.countB s sep) s).map Value.string).toArray 9) := Any.strings_Split Tryd.lays146 (by kernel_rfl) s sep m w hs hm h1
def Tryd.lays147_ren : Go.Shelf.Ren := ⟨fun | 147 => 52 | 221 => 50 | 268 => 71 | 138 => 72 | 143 => 73 | 195 => 90 | 197 => 91 | 218 => 92 | 219 => 93 | 260 => 101 | 217 => 102 | 225 => 103 | 224 => 104 | 267 => 105 | 266 => 116 | 314 => 117 | n => n, fun | 9 => 9 | 3 => 3 | 31 => 39 | 4 => 4 | 0 => 0 | 105 => 102 | 21 => 21 | 5 => 5 | 46 => 85 | 119 => 124 | 139 => 127 | 138 => 126 | 146 => 129 | 51 => 128 | n => n, fun | 1 => 0 | 3 => 1 | 4 => 2 | n => n⟩
theorem Tryd.lays147 : Go.Proofs.Lays.n147 Tryd.prog Tryd.lays147_ren := {
 mixed := by kernel_rfl
 f138 := Tryd.func72.trans (congrArg some (by kernel_rfl))
 f143 := Tryd.func73.trans (congrArg some (by kernel_rfl))
 f147 := Tryd.func52.trans (congrArg some (by kernel_rfl))
 f195 := Tryd.func90.trans (congrArg some (by kernel_rfl))
 f197 := Tryd.func91.trans (congrArg some (by kernel_rfl))
 f217 := Tryd.func102.trans (congrArg some (by kernel_rfl))
 f218 := Tryd.func92.trans (congrArg some (by kernel_rfl))
 f219 := Tryd.func93.trans (congrArg some (by kernel_rfl))
 f221 := Tryd.func50.trans (congrArg some (by kernel_rfl))
 f224 := Tryd.func104.trans (congrArg some (by kernel_rfl))
 f225 := Tryd.func103.trans (congrArg some (by kernel_rfl))
 f260 := Tryd.func101.trans (congrArg some (by kernel_rfl))
 f266 := Tryd.func116.trans (congrArg some (by kernel_rfl))
 f267 := Tryd.func105.trans (congrArg some (by kernel_rfl))
 f268 := Tryd.func71.trans (congrArg some (by kernel_rfl))
 f314 := Tryd.func117.trans (congrArg some (by kernel_rfl))
 t0 := Tryd.underlying0
 a0 := Tryd.isAgg0
 z0 := Tryd.sizeOf0
 v0 := Tryd.zeroValue0
 t3 := Tryd.underlying3
 a3 := Tryd.isAgg3
 z3 := Tryd.sizeOf3
 v3 := Tryd.zeroValue3
 t4 := Tryd.underlying4
 a4 := Tryd.isAgg4
 z4 := Tryd.sizeOf4
 v4 := Tryd.zeroValue4
 t5 := Tryd.underlying5
 a5 := Tryd.isAgg5
 z5 := Tryd.sizeOf5
 v5 := Tryd.zeroValue5
 t9 := Tryd.underlying9
 a9 := Tryd.isAgg9
 z9 := Tryd.sizeOf9
 v9 := Tryd.zeroValue9
 t21 := Tryd.underlying21
 a21 := Tryd.isAgg21
 z21 := Tryd.sizeOf21
 v21 := Tryd.zeroValue21
 t31 := Tryd.underlying39
 a31 := Tryd.isAgg39
 z31 := Tryd.sizeOf39
 v31 := Tryd.zeroValue39
 t46 := Tryd.underlying85
 a46 := Tryd.isAgg85
 z46 := Tryd.sizeOf85
 v46 := Tryd.zeroValue85
 t51 := Tryd.underlying128
 a51 := Tryd.isAgg128
 z51 := Tryd.sizeOf128
 v51 := Tryd.zeroValue128
 t105 := Tryd.underlying102
 a105 := Tryd.isAgg102
 z105 := Tryd.sizeOf102
 v105 := Tryd.zeroValue102
 t119 := Tryd.underlying124
 a119 := Tryd.isAgg124
 z119 := Tryd.sizeOf124
 t138 := Tryd.underlying126
 a138 := Tryd.isAgg126
 z138 := Tryd.sizeOf126
 v138 := Tryd.zeroValue126
 t139 := Tryd.underlying127
 a139 := Tryd.isAgg127
 z139 := Tryd.sizeOf127
 v139 := Tryd.zeroValue127
 t146 := Tryd.underlying129
 a146 := Tryd.isAgg129
 z146 := Tryd.sizeOf129
 v146 := Tryd.zeroValue129
 g1 := by kernel_rfl
 g3 := by kernel_rfl
 g4 := by kernel_rfl }
open Go.RowKit Go.Lib in
theorem Tryd.strings_SplitN (s sep : ByteArray) (n : Nat) (m : Int) (w : World) (hs : s.size < 4294967281) (hm : w.cell? ⟨0, 0, none⟩ = some (.int .i64 m)) (h1 : 1 ≤ sep.size) (hn : 1 ≤ n) (hn63 : n ≤ 9223372036854775807) :
  Calls Tryd.prog 52 #[.string s, .string sep, .int .i64 n] w fun e w' =>
   e = .returned (.slice (some ⟨w.heap.size, 0, none⟩) (Lib.splitB sep 0 (min n (s.size + 1) - 1) s).length (min n (s.size + 1))) ∧ w' = w.alloc (.cells (Lib.cellsOf (Lib.splitB sep 0 (min n (s.size + 1) - 1) s) (min n (s.size + 1))) 9) := Any.strings_SplitN Tryd.lays147 (by kernel_rfl) s sep n m w hs hm h1 hn hn63
end Go.Proofs
namespace Go.Proofs.YtjebkmfljcanlaaDoor.Q
open Go Go.RowKit
def Tab_ (w : World) : Prop := (Lib.TabIs Tryd.prog w "internal/strconv.uint64pow10" .u64 Lib.pow10Tab) ∧ (∃ m : Int, w.cell? ⟨0, 0, none⟩ = some (.int .i64 m))
theorem bY_ {w w' : World} (h : Tab_ w) (hb : Below w.heap.size w w') : Tab_ w' := by
 obtain ⟨h1, h2⟩ := h
 refine ⟨?_, ?_⟩
 ·have h3 := h1
  unfold Lib.TabIs World.var? at h3
  obtain ⟨g, hg, h4⟩ := Option.bind_eq_some_iff.1 h3
  refine var?_below hb hg ?_ h1
  split at h4
  ·rename_i hh
   exact (Array.getElem?_eq_some_iff.1 hh).1
  ·cases h4
 ·obtain ⟨m, hm⟩ := h2
  exact ⟨m, (hb.cell (bl_ w _ hm)).trans hm⟩
end Go.Proofs.YtjebkmfljcanlaaDoor.Q
namespace Go.Proofs.YtjebkmfljcanlaaDoor.Q
open Go.RowKit Go.Proofs.YtjebkmfljcanlaaDoorW.PrintWords Go.Proofs.YtjebkmfljcanlaaDoorW.PrintLast Go.Proofs.YtjebkmfljcanlaaDoorW.PrintMore
attribute [local go_sem] aS_ aT_ bc_ bb_ aI_ aJ_ aR_ aU_
def strings_Split.f (a0 : ByteArray) (a1 : ByteArray) : Option (List ByteArray) := if a0.size < 4294967281 ∧ 1 ≤ a1.size then some (Go.Lib.splitB a1 0 (Go.Lib.countB a0 a1) a0) else none
theorem strings_Split.calls (a0 : ByteArray) (a1 : ByteArray) (r : List ByteArray) (w : World) (hTab_ : Tab_ w) (h : strings_Split.f a0 a1 = some r) :
  Calls Tryd.prog 28 #[.string a0, .string a1] w fun e w' => ∃ v0_ : Value, e = .returned (v0_) ∧ Kd.R Kd.string 9 w' w.heap.size (fun _ => True) v0_ r ∧ Below w.heap.size w w' := by
 unfold strings_Split.f at h
 split at h
 case isFalse => cases h
 rename_i hc
 obtain ⟨hs, h1⟩ := hc
 obtain rfl := Option.some.inj h
 obtain ⟨m, hm⟩ := hTab_.2
 refine (Go.Proofs.Tryd.strings_Split a0 a1 m w hs hm h1).mono ?_
 rintro e w' ⟨rfl, rfl⟩
 have hlen := Go.Lib.splitB_all a1 h1 0 (Go.Lib.countB a0 a1) a0 rfl
 obtain ⟨l, hl⟩ : ∃ l, l = Go.Lib.splitB a1 0 (Go.Lib.countB a0 a1) a0 := ⟨_, rfl⟩
 rw [← hl] at hlen ⊢
 have hsz : Go.Lib.countB a0 a1 + 1 = l.length := hlen.symm
 rw [hsz]
 have hll : l.length ≤ 9223372036854775807 := by
  have := Go.Lib.countB_le a1 h1 a0.size a0 (Nat.le_refl _)
  omega
 refine ⟨_, rfl, ⟨fun _ _ => trivial, l.map Value.string, ?_, ?_⟩, bA_ (Below.refl _ _) _⟩
 ·have h2 := World.ownsRow_lit (base := w.heap.size) (e := 9) (size := Kd.string.sz) w (l.map Value.string).toArray l.length (Nat.le_refl _) (by simpa [maxLen] using hll) (by show _ = l.length * 1; simp)
  simpa using h2
 ·refine ⟨by show _ = l.length * 1; simp, fun j p hj => ?_⟩
  show ((l.map Value.string).drop (j * 1)).take 1 = [Value.string p]
  obtain ⟨hj1, hj2⟩ := List.getElem?_eq_some_iff.1 hj
  rw [Nat.mul_one, ← List.map_drop, ← List.map_take, List.drop_eq_getElem_cons hj1, List.take_succ_cons, List.take_zero, hj2]
  rfl
def bj_.f (a0 : Int) (a1 : Int) : Option (ByteArray) := if a1 = 10 ∧ -9223372036854775808 ≤ a0 ∧ a0 ≤ 9223372036854775807 then some (⟨(Go.Lib.itoa a0).toArray⟩ : ByteArray) else none
theorem bj_.calls (a0 : Int) (a1 : Int) (r : ByteArray) (w : World) (hTab_ : Tab_ w) (h : bj_.f a0 a1 = some r) :
  Calls Tryd.prog 79 #[.int .i64 a0, .int .i64 a1] w fun e w' => e = .returned (.string r) ∧ Below w.heap.size w w' := by
 unfold bj_.f at h
 split at h
 case isFalse => cases h
 rename_i hc
 obtain ⟨rfl, h0, h1⟩ := hc
 obtain rfl := Option.some.inj h
 refine (Go.Proofs.Tryd.strconv_FormatInt_10 a0 h0 h1 w hTab_.1).mono ?_
 rintro e w' ⟨rfl, k, os, rfl⟩
 exact ⟨rfl, Go.Lib.below_grow _ _ (Nat.le_refl _) _ _⟩
def bI_.f (a0 : Int) : Option (ByteArray) := (bj_.f a0 10).bind fun t101 => (some t101)
set_option maxHeartbeats 8000000 in
set_option maxRecDepth 100000 in
theorem bI_.calls (a0 : Int) (r : ByteArray) (w : World) (hTab_ : Tab_ w) (h : bI_.f a0 = some r) :
  Calls Tryd.prog 59 #[.int .i64 a0] w fun e w' => e = .returned (.string r) ∧ Below w.heap.size w w' := by
 have HTab_ := Aside0.mk hTab_
 clear hTab_
 have HB := Aside0.mk (Below.refl w.heap.size w)
 have H : ((bj_.f a0 10).bind fun t101 => (some t101)) = some r := h
 clear h
 replace H := Option.bind_eq_some_iff.mp H
 obtain ⟨t101, A20, H⟩ := H
 (try dsimp only at H)
 have A2 := Aside0.mk A20
 clear A20
 obtain rfl := Option.some.inj H
 go_enter Tryd.func59, Tryd.ntmps59
 go_wp2_with (first | ((with_reducible refine az_ (f := 79) rfl ?_); refine bn_ (some 4) rfl rfl Tryd.func79 (by kernel_rfl) rfl #[.int .i64 a0, .int .i64 10] rfl (by first | rfl | (simp only [List.map_toArray, List.map_cons, List.map_nil]; first | done | rfl)) ?_; (with_reducible refine (bj_.calls a0 10 t101 _ ?side1 A2.out).mono ?_); (case side1 => exact bY_ HTab_.out (bz HB.out)); rintro e w3 ⟨rfl, hb⟩; refine ⟨_, rfl, ?_⟩; replace HB := Aside0.mk (ak_ (bz HB.out) hb); (try clear hb)))
 go_ret
 exact ⟨by first | rfl | (simp [*, as_, au_] <;> rfl), bz HB.out⟩
def bR_.f (a0 : Int) (a1 : Int) (a2 : Int) : Option (Bool) := if a0 ≥ a1 then (some (decide (a0 ≤ a2))) else (some false)
set_option maxHeartbeats 8000000 in
set_option maxRecDepth 100000 in
theorem bR_.calls (a0 : Int) (a1 : Int) (a2 : Int) (r : Bool) (w : World) (h : bR_.f a0 a1 a2 = some r) :
  Calls Tryd.prog 35 #[.int .i64 a0, .int .i64 a1, .int .i64 a2] w fun e w' => e = .returned (.bool r) ∧ ao_ w w' := by
 have H : (if a0 ≥ a1 then (some (decide (a0 ≤ a2))) else (some false)) = some r := h
 clear h
 by_cases c4 : a0 ≥ a1
 rotate_left
 ·rw [if_neg c4] at H
  have c4b0 : decide (a1 ≤ a0) = false := decide_eq_false c4
  clear c4
  obtain rfl := Option.some.inj H
  go_enter Tryd.func35, Tryd.ntmps35
  go_wp2
  go_ret
  exact ⟨by first | rfl | (simp; done) | (simp [*]; done), by repeat (first | exact ao_.refl _ | apply ao_.step)⟩
 rw [if_pos c4] at H
 have c4b0 : decide (a1 ≤ a0) = true := decide_eq_true c4
 clear c4
 obtain rfl := Option.some.inj H
 go_enter Tryd.func35, Tryd.ntmps35
 go_wp2
 go_ret
 exact ⟨by first | rfl | (simp; done) | (simp [*]; done), by repeat (first | exact ao_.refl _ | apply ao_.step)⟩
mutual
def aP_.l0 : Nat → ByteArray → Int → Int → Option (Int)
 | 0, _, _, _ => none
 | k + 1, x0, x5, x6 => if x6 < (x0.size : Int) then (if 0 ≤ x6 then (aP_.l1 k x0 (Go.bits .xor .i64 x5 (wrap64 ((wrap64 (bt x0 x6)) * 256))) x6 0) else (none)) else (some x5)
def aP_.l1 : Nat → ByteArray → Int → Int → Int → Option (Int)
 | 0, _, _, _, _ => none
 | k + 1, x0, x5, x6, x7 => if x7 < 8 then (if (wrap64 (x5 * 2)) > 65535 then (aP_.l1 k x0 (Go.bits .xor .i64 (Go.bits .and .i64 (wrap64 (x5 * 2)) 65535) 4129) x6 (wrap64 (x7 + 1))) else (aP_.l1 k x0 (wrap64 (x5 * 2)) x6 (wrap64 (x7 + 1)))) else (aP_.l0 k x0 x5 (wrap64 (x6 + 1)))
end
def aP_.f (k : Nat) (a0 : ByteArray) (a1 : Int) : Option (Int) := (bR_.f a1 0 65535).bind fun t101 => (if t101 = true then (aP_.l0 k a0 a1 0) else (some 0))
set_option maxHeartbeats 8000000 in
set_option maxRecDepth 100000 in
theorem aP_.calls (k : Nat) (a0 : ByteArray) (a1 : Int) (r : Int) (w : World) (h : aP_.f k a0 a1 = some r) :
  Calls Tryd.prog 74 #[.string a0, .int .i64 a1] w fun e w' => e = .returned (.int .i64 r) ∧ ao_ w w' := by
 have H : ((bR_.f a1 0 65535).bind fun t101 => (if t101 = true then (aP_.l0 k a0 a1 0) else (some 0))) = some r := h
 clear h
 replace H := Option.bind_eq_some_iff.mp H
 obtain ⟨t101, A30, H⟩ := H
 (try dsimp only at H)
 have A3 := Aside0.mk A30
 clear A30
 have HC4 := Aside0.mk H
 clear H
 go_enter Tryd.func74, Tryd.ntmps74
 go_upto_if 10 with (first | ((with_reducible refine az_ (f := 35) rfl ?_); refine bn_ (some 9) rfl rfl Tryd.func35 (by kernel_rfl) rfl #[.int .i64 a1, .int .i64 0, .int .i64 65535] rfl (by first | rfl | (simp only [List.map_toArray, List.map_cons, List.map_nil]; first | done | rfl)) ?_; (with_reducible refine (bR_.calls a1 0 65535 t101 _ A3.out).mono ?_); rintro e w' ⟨rfl, ⟨nd, rfl⟩⟩; refine ⟨_, rfl, ?_⟩))
 (try simp only [Act.put, lsa_, ls0_, ls1_])
 have H := HC4.out
 clear HC4
 by_cases c5 : t101 = true
 rotate_left
 ·replace c5 := Bool.eq_false_iff.mpr c5
  subst c5
  have H1 : (some 0) = some r := by rw [if_neg (show ¬ (false = true) by decide)] at H; exact H
  clear H
  have H := H1
  clear H1
  obtain rfl := Option.some.inj H
  go_wp2
  go_ret
  exact ⟨by first | rfl | (simp; done) | (simp [*]; done), by repeat (first | exact ao_.refl _ | apply ao_.step)⟩
 subst c5
 have H1 : (aP_.l0 k a0 a1 0) = some r := by rw [if_pos rfl] at H; exact H
 clear H
 have H := H1
 clear H1
 have H' := Aside0.mk H
 clear H
 go_wp2
 (try simp only [Act.put, lsa_, ls0_, ls1_])
 go_loopg [5, 6] k (fun kq v5 v6 w' => ∃ (x5_1 : Int) (x6_1 : Int), v5 = .int .i64 x5_1 ∧ v6 = .int .i64 x6_1 ∧ Aside0 (aP_.l0 kq a0 x5_1 x6_1 = some r) ∧ Aside0 (kq ≤ k) ∧ ao_ w w')
 case atStart => exact ⟨(a1), (0), (by first | rfl | (simp; done) | (simp [*]; done)), (by first | rfl | (simp; done) | (simp [*]; done)), H', ⟨Nat.le_refl _⟩, by repeat (first | exact ao_.refl _ | apply ao_.step)⟩
 case round =>
  clear H'
  obtain ⟨x5_1, x6_1, rfl, rfl, HA, HK1, ⟨m1, rfl⟩⟩ := hrel
  cases gk with
  | zero => exact absurd HA.out (by simp [aP_.l0])
  | succ k1 =>
   have H := HA.out
   clear HA
   simp only [aP_.l0] at H
   by_cases c6 : x6_1 < (a0.size : Int)
   rotate_left
   ·rw [if_neg c6] at H
    have c6b0 : decide (x6_1 < (a0.size : Int)) = false := decide_eq_false c6
    clear c6
    (first | rw [c6b0] | (simp only [i64_w, i32_w]; rw [c6b0]) | (simp only [c6b1, Bool.not_true, Bool.not_false]) | (simp only [c6b0, Bool.not_true, Bool.not_false]) | skip)
    obtain rfl := Option.some.inj H
    go_wp2
    go_ret
    exact ⟨by first | rfl | (simp; done) | (simp [*]; done), by repeat (first | exact ao_.refl _ | apply ao_.step)⟩
   rw [if_pos c6] at H
   have c6b0 : decide (x6_1 < (a0.size : Int)) = true := decide_eq_true c6
   clear c6
   (first | rw [c6b0] | (simp only [i64_w, i32_w]; rw [c6b0]) | (simp only [c6b1, Bool.not_true, Bool.not_false]) | (simp only [c6b0, Bool.not_true, Bool.not_false]) | skip)
   by_cases c7 : 0 ≤ x6_1
   rotate_left
   ·rw [if_neg c7] at H
    exact absurd H (by simp)
   rw [if_pos c7] at H
   have c7b0 : decide (0 ≤ x6_1) = true := decide_eq_true c7
   clear c7
   have H' := Aside0.mk H
   clear H
   have p8 : 0 ≤ (x6_1 : Int) := of_decide_eq_true (by assumption)
   have q8 : x6_1 < (a0.size : Int) := of_decide_eq_true (by assumption)
   have hx8 := bt_at a0 x6_1
   replace p8 := eq_true p8
   replace q8 := eq_true q8
   go_wp2
   (try simp only [Act.put, lsa_, ls0_, ls1_])
   go_loopg [5, 7] k1 (fun kq v5 v7 w' => ∃ (x5_2 : Int) (x7_2 : Int), v5 = .int .i64 x5_2 ∧ v7 = .int .i64 x7_2 ∧ Aside0 (aP_.l1 kq a0 x5_2 x6_1 x7_2 = some r) ∧ Aside0 (kq ≤ k1) ∧ ao_ w w')
   case atStart => exact ⟨(Go.bits .xor .i64 x5_1 (wrap64 ((wrap64 (bt a0 x6_1)) * 256))), (0), (by first | rfl | (simp; done) | (simp [*]; done)), (by first | rfl | (simp; done) | (simp [*]; done)), H', ⟨Nat.le_refl _⟩, by repeat (first | exact ao_.refl _ | apply ao_.step)⟩
   case round =>
    clear H'
    obtain ⟨x5_2, x7_2, rfl, rfl, HA, HK2, ⟨m2, rfl⟩⟩ := hrel
    cases gk with
    | zero => exact absurd HA.out (by simp [aP_.l1])
    | succ k2 =>
     have H := HA.out
     clear HA
     simp only [aP_.l1] at H
     by_cases c9 : x7_2 < 8
     rotate_left
     ·rw [if_neg c9] at H
      have c9b0 : decide (x7_2 < 8) = false := decide_eq_false c9
      clear c9
      have H' := Aside0.mk H
      clear H
      go_wp2
      go_roundg k2
      case measure => have := HK1.out; have := HK2.out; omega
      case rel => exact ⟨(x5_2), (wrap64 (x6_1 + 1)), (by first | rfl | (simp; done) | (simp [*]; done)), (by first | rfl | (simp; done) | (simp [*]; done)), H', ⟨by have := HK1.out; have := HK2.out; omega⟩, by repeat (first | exact ao_.refl _ | apply ao_.step)⟩
     rw [if_pos c9] at H
     have c9b0 : decide (x7_2 < 8) = true := decide_eq_true c9
     clear c9
     by_cases c10 : (wrap64 (x5_2 * 2)) > 65535
     rotate_left
     ·rw [if_neg c10] at H
      have c10b0 : decide (65535 < (wrap64 (x5_2 * 2))) = false := decide_eq_false c10
      clear c10
      have H' := Aside0.mk H
      clear H
      go_wp2
      go_roundg k2
      case measure => have := HK1.out; have := HK2.out; omega
      case rel => exact ⟨(wrap64 (x5_2 * 2)), (wrap64 (x7_2 + 1)), (by first | rfl | (simp; done) | (simp [*]; done)), (by first | rfl | (simp; done) | (simp [*]; done)), H', ⟨by have := HK1.out; have := HK2.out; omega⟩, by repeat (first | exact ao_.refl _ | apply ao_.step)⟩
     rw [if_pos c10] at H
     have c10b0 : decide (65535 < (wrap64 (x5_2 * 2))) = true := decide_eq_true c10
     clear c10
     have H' := Aside0.mk H
     clear H
     go_wp2
     go_roundg k2
     case measure => have := HK1.out; have := HK2.out; omega
     case rel => exact ⟨(Go.bits .xor .i64 (Go.bits .and .i64 (wrap64 (x5_2 * 2)) 65535) 4129), (wrap64 (x7_2 + 1)), (by first | rfl | (simp; done) | (simp [*]; done)), (by first | rfl | (simp; done) | (simp [*]; done)), H', ⟨by have := HK1.out; have := HK2.out; omega⟩, by repeat (first | exact ao_.refl _ | apply ao_.step)⟩
def bk_.f (k : Nat) (a0 : ByteArray) : Option (ByteArray) := (aP_.f k a0 65535).bind fun t101 => ((bI_.f t101).bind fun t102 => (if 0 ≤ (t102.size : Int) then (if (t102.size : Int) ≤ 5 then (if ((⟨#[48, 48, 48, 48, 48]⟩ : ByteArray).extract ((t102.size : Int) : Int).toNat (⟨#[48, 48, 48, 48, 48]⟩ : ByteArray).size).size + t102.size ≤ 9223372036854775807 then (some (((⟨#[48, 48, 48, 48, 48]⟩ : ByteArray).extract ((t102.size : Int) : Int).toNat (⟨#[48, 48, 48, 48, 48]⟩ : ByteArray).size) ++ t102)) else (none)) else (none)) else (none)))
set_option maxHeartbeats 8000000 in
set_option maxRecDepth 100000 in
theorem bk_.calls (k : Nat) (a0 : ByteArray) (r : ByteArray) (w : World) (hTab_ : Tab_ w) (h : bk_.f k a0 = some r) :
  Calls Tryd.prog 51 #[.string a0] w fun e w' => e = .returned (.string r) ∧ Below w.heap.size w w' := by
 have HTab_ := Aside0.mk hTab_
 clear hTab_
 have HB := Aside0.mk (Below.refl w.heap.size w)
 have H : ((aP_.f k a0 65535).bind fun t101 => ((bI_.f t101).bind fun t102 => (if 0 ≤ (t102.size : Int) then (if (t102.size : Int) ≤ 5 then (if ((⟨#[48, 48, 48, 48, 48]⟩ : ByteArray).extract ((t102.size : Int) : Int).toNat (⟨#[48, 48, 48, 48, 48]⟩ : ByteArray).size).size + t102.size ≤ 9223372036854775807 then (some (((⟨#[48, 48, 48, 48, 48]⟩ : ByteArray).extract ((t102.size : Int) : Int).toNat (⟨#[48, 48, 48, 48, 48]⟩ : ByteArray).size) ++ t102)) else (none)) else (none)) else (none)))) = some r := h
 clear h
 replace H := Option.bind_eq_some_iff.mp H
 obtain ⟨t101, A20, H⟩ := H
 (try dsimp only at H)
 have A2 := Aside0.mk A20
 clear A20
 replace H := Option.bind_eq_some_iff.mp H
 obtain ⟨t102, A30, H⟩ := H
 (try dsimp only at H)
 have A3 := Aside0.mk A30
 clear A30
 by_cases c4 : 0 ≤ (t102.size : Int)
 rotate_left
 ·rw [if_neg c4] at H
  exact absurd H (by simp)
 rw [if_pos c4] at H
 have c4b0 := eq_true c4
 have c4b1 : decide (0 ≤ (t102.size : Int)) = true := decide_eq_true c4
 clear c4
 by_cases c5 : (t102.size : Int) ≤ 5
 rotate_left
 ·rw [if_neg c5] at H
  exact absurd H (by simp)
 rw [if_pos c5] at H
 have c5b0 := eq_true c5
 have c5b1 : decide ((t102.size : Int) ≤ 5) = true := decide_eq_true c5
 clear c5
 by_cases c6 : ((⟨#[48, 48, 48, 48, 48]⟩ : ByteArray).extract ((t102.size : Int) : Int).toNat (⟨#[48, 48, 48, 48, 48]⟩ : ByteArray).size).size + t102.size ≤ 9223372036854775807
 rotate_left
 ·rw [if_neg c6] at H
  exact absurd H (by simp)
 rw [if_pos c6] at H
 have c6b0 := eq_true c6
 have c6b1 : decide (((⟨#[48, 48, 48, 48, 48]⟩ : ByteArray).extract ((t102.size : Int) : Int).toNat (⟨#[48, 48, 48, 48, 48]⟩ : ByteArray).size).size + t102.size ≤ 9223372036854775807) = true := decide_eq_true c6
 try have c6b2 : (9223372036854775807 < ((⟨#[48, 48, 48, 48, 48]⟩ : ByteArray).extract ((t102.size : Int) : Int).toNat (⟨#[48, 48, 48, 48, 48]⟩ : ByteArray).size).size + t102.size) = False := eq_false (Nat.not_lt.2 c6)
 obtain rfl := Option.some.inj H
 go_enter Tryd.func51, Tryd.ntmps51
 go_wp2_with (first | ((with_reducible refine az_ (f := 74) rfl ?_); refine bn_ (some 5) rfl rfl Tryd.func74 (by kernel_rfl) rfl #[.string a0, .int .i64 65535] rfl (by first | rfl | (simp only [List.map_toArray, List.map_cons, List.map_nil]; first | done | rfl)) ?_; (with_reducible refine (aP_.calls k a0 65535 t101 _ A2.out).mono ?_); rintro e w' ⟨rfl, ⟨nd, rfl⟩⟩; refine ⟨_, rfl, ?_⟩) | ((with_reducible refine az_ (f := 59) rfl ?_); refine bn_ (some 6) rfl rfl Tryd.func59 (by kernel_rfl) rfl #[.int .i64 t101] rfl (by first | rfl | (simp only [List.map_toArray, List.map_cons, List.map_nil]; first | done | rfl)) ?_; (with_reducible refine (bI_.calls t101 t102 _ ?side1 A3.out).mono ?_); (case side1 => exact bY_ HTab_.out (bz HB.out)); rintro e w7 ⟨rfl, hb⟩; refine ⟨_, rfl, ?_⟩; replace HB := Aside0.mk (ak_ (bz HB.out) hb); (try clear hb)))
 go_ret
 exact ⟨by first | rfl | (simp [*, as_, au_] <;> rfl), bz HB.out⟩
def strings_SplitN.f (a0 : ByteArray) (a1 : ByteArray) (a2 : Int) : Option (List ByteArray) := if a0.size < 4294967281 ∧ 1 ≤ a1.size ∧ 1 ≤ a2 ∧ a2 ≤ 9223372036854775807 then some (Go.Lib.splitB a1 0 (min a2.toNat (a0.size + 1) - 1) a0) else none
theorem strings_SplitN.len (sep : ByteArray) (save : Nat) : ∀ (k : Nat) (s : ByteArray), (Go.Lib.splitB sep save k s).length ≤ k + 1
 | 0, s => by simp [Go.Lib.splitB]
 | k + 1, s => by
  unfold Go.Lib.splitB
  split
  ·simp
  ·have := strings_SplitN.len sep save k (s.extract ((Go.Lib.indexB s sep).toNat + sep.size) s.size)
   rw [List.length_cons]
   omega
theorem strings_SplitN.calls (a0 : ByteArray) (a1 : ByteArray) (a2 : Int) (r : List ByteArray) (w : World) (hTab_ : Tab_ w) (h : strings_SplitN.f a0 a1 a2 = some r) :
  Calls Tryd.prog 52 #[.string a0, .string a1, .int .i64 a2] w fun e w' => ∃ v0_ : Value, e = .returned (v0_) ∧ Kd.R Kd.string 9 w' w.heap.size (fun _ => True) v0_ r ∧ Below w.heap.size w w' := by
 unfold strings_SplitN.f at h
 split at h
 case isFalse => cases h
 rename_i hc
 obtain ⟨hs, h1, h2, h3⟩ := hc
 obtain rfl := Option.some.inj h
 obtain ⟨n, rfl⟩ := Int.eq_ofNat_of_zero_le (show 0 ≤ a2 by omega)
 obtain ⟨m, hm⟩ := hTab_.2
 rw [Int.toNat_natCast]
 refine (Go.Proofs.Tryd.strings_SplitN a0 a1 n m w hs hm h1 (by omega) (by omega)).mono ?_
 rintro e w' ⟨rfl, rfl⟩
 have hlen := strings_SplitN.len a1 0 (min n (a0.size + 1) - 1) a0
 obtain ⟨l, hl⟩ : ∃ l, l = Go.Lib.splitB a1 0 (min n (a0.size + 1) - 1) a0 := ⟨_, rfl⟩
 obtain ⟨c, hc⟩ : ∃ c, c = min n (a0.size + 1) := ⟨_, rfl⟩
 rw [← hc] at hl hlen
 rw [← hc, ← hl]
 rw [← hl] at hlen
 have hc1 : 1 ≤ c := by omega
 have hcm : c ≤ 9223372036854775807 := by omega
 have hlc : l.length ≤ c := by omega
 have hsz : (Go.Lib.cellsOf l c).size = c := by simp [Go.Lib.cellsOf]; omega
 refine ⟨_, rfl, ⟨fun _ _ => trivial, l.map Value.string, ⟨by show _ = l.length * 1; simp, .inr ⟨w.heap.size, c, Go.Lib.cellsOf l c, rfl, Nat.le_refl _, heap_alloc_new w _, hlc, by simpa [maxLen] using hcm, by show _ = c * 1; rw [hsz]; omega, ?_⟩⟩, ?_⟩, bA_ (Below.refl _ _) _⟩
 ·show (Go.Lib.cellsOf l c).toList.take (l.length * 1) = _
  rw [Nat.mul_one]
  simp [Go.Lib.cellsOf]
 ·refine ⟨by show _ = l.length * 1; simp, fun j p hj => ?_⟩
  show ((l.map Value.string).drop (j * 1)).take 1 = [Value.string p]
  obtain ⟨hj1, hj2⟩ := List.getElem?_eq_some_iff.1 hj
  rw [Nat.mul_one, ← List.map_drop, ← List.map_take, List.drop_eq_getElem_cons hj1, List.take_succ_cons, List.take_zero, hj2]
  rfl
mutual
def an_.j0 : Nat → ByteArray → Bool → Option (Bool)
 | 0, _, _ => none
 | k + 1, x0, x21 => if x21 = true then (some false) else (an_.l0 k x0 0)
def an_.l0 : Nat → ByteArray → Int → Option (Bool)
 | 0, _, _ => none
 | k + 1, x0, x3 => if x3 < (x0.size : Int) then (if 0 ≤ x3 then (if (bt x0 x3) < 97 then (if (bt x0 x3) < 48 then (some false) else (if (bt x0 x3) > 57 then (some false) else (an_.l0 k x0 (wrap64 (x3 + 1))))) else (if (bt x0 x3) > 122 then (if (bt x0 x3) < 48 then (some false) else (if (bt x0 x3) > 57 then (some false) else (an_.l0 k x0 (wrap64 (x3 + 1))))) else (an_.l0 k x0 (wrap64 (x3 + 1))))) else (none)) else (some true)
end
def an_.f (k : Nat) (a0 : ByteArray) : Option (Bool) := if (a0.size : Int) < 1 then (an_.j0 k a0 true) else (if (a0.size : Int) > 10 then (an_.j0 k a0 true) else (if 0 < (a0.size : Int) then (if (bt a0 0) < 97 then (an_.j0 k a0 true) else (an_.j0 k a0 (decide ((bt a0 0) > 122)))) else (none)))
set_option maxHeartbeats 8000000 in
set_option maxRecDepth 100000 in
theorem an_.calls (k : Nat) (a0 : ByteArray) (r : Bool) (w : World) (h : an_.f k a0 = some r) :
  Calls Tryd.prog 75 #[.string a0] w fun e w' => e = .returned (.bool r) ∧ ao_ w w' := by
 have H : (if (a0.size : Int) < 1 then (an_.j0 k a0 true) else (if (a0.size : Int) > 10 then (an_.j0 k a0 true) else (if 0 < (a0.size : Int) then (if (bt a0 0) < 97 then (an_.j0 k a0 true) else (an_.j0 k a0 (decide ((bt a0 0) > 122)))) else (none)))) = some r := h
 clear h
 have HC2 := Aside0.mk H
 clear H
 go_enter Tryd.func75, Tryd.ntmps75
 go_upto_region 1 with (fail)
 go_cut [21] (fun v21 wc => ∃ (kq : Nat) (x21_1 : Bool), v21 = .bool x21_1 ∧ Aside0 (an_.j0 kq a0 x21_1 = some r) ∧ Aside0 (kq ≤ k) ∧ ao_ w wc)
 case first =>
  have H := HC2.out
  clear HC2
  by_cases c3 : (a0.size : Int) < 1
  rotate_left
  ·rw [if_neg c3] at H
   have c3b0 : decide ((a0.size : Int) < 1) = false := decide_eq_false c3
   have c3b1 : decide (a0.size < 1) = false := decide_eq_false (by omega)
   clear c3
   (first | rw [c3b0] | (simp only [i64_w, i32_w]; rw [c3b0]) | (simp only [c3b1, Bool.not_true, Bool.not_false]) | (simp only [c3b0, Bool.not_true, Bool.not_false]) | skip)
   by_cases c4 : (a0.size : Int) > 10
   rotate_left
   ·rw [if_neg c4] at H
    have c4b0 : decide (10 < (a0.size : Int)) = false := decide_eq_false c4
    have c4b1 : decide (10 < a0.size) = false := decide_eq_false (by omega)
    clear c4
    by_cases c5 : 0 < (a0.size : Int)
    rotate_left
    ·rw [if_neg c5] at H
     exact absurd H (by simp)
    rw [if_pos c5] at H
    have c5b0 : decide (0 < (a0.size : Int)) = true := decide_eq_true c5
    have c5b1 : decide (0 < a0.size) = true := decide_eq_true (by omega)
    clear c5
    by_cases c7 : (bt a0 0) < 97
    rotate_left
    ·rw [if_neg c7] at H
     have c7b0 : decide ((bt a0 0) < 97) = false := decide_eq_false c7
     clear c7
     have H' := Aside0.mk H
     clear H
     have p6 : 0 ≤ (0 : Int) := (by omega)
     have q6 : 0 < a0.size := (by have : (0 : Int) < (a0.size : Int) := of_decide_eq_true (by assumption); omega)
     have hx6 : ∀ h : 0 < a0.size, ((a0[0]'h).toNat : Int) = bt a0 0 := bt_at a0 0
     clear p6
     have qi6 : (0 < (a0.size : Int)) = True := eq_true (of_decide_eq_true (by assumption))
     replace q6 := eq_true q6
     have p8 : 0 ≤ (0 : Int) := (by omega)
     have q8 : 0 < a0.size := (by have : (0 : Int) < (a0.size : Int) := of_decide_eq_true (by assumption); omega)
     have hx8 : ∀ h : 0 < a0.size, ((a0[0]'h).toNat : Int) = bt a0 0 := bt_at a0 0
     clear p8
     have qi8 : (0 < (a0.size : Int)) = True := eq_true (of_decide_eq_true (by assumption))
     replace q8 := eq_true q8
     go_wp2
     go_meet
     case rel => exact ⟨_, (decide ((bt a0 0) > 122)), (by first | rfl | (simp; done) | (simp [*]; done)), H', ⟨by first | omega | exact Nat.le_refl _⟩, by repeat (first | exact ao_.refl _ | apply ao_.step)⟩
    rw [if_pos c7] at H
    have c7b0 : decide ((bt a0 0) < 97) = true := decide_eq_true c7
    clear c7
    have H' := Aside0.mk H
    clear H
    have p6 : 0 ≤ (0 : Int) := (by omega)
    have q6 : 0 < a0.size := (by have : (0 : Int) < (a0.size : Int) := of_decide_eq_true (by assumption); omega)
    have hx6 : ∀ h : 0 < a0.size, ((a0[0]'h).toNat : Int) = bt a0 0 := bt_at a0 0
    clear p6
    have qi6 : (0 < (a0.size : Int)) = True := eq_true (of_decide_eq_true (by assumption))
    replace q6 := eq_true q6
    go_wp2
    go_meet
    case rel => exact ⟨_, (true), (by first | rfl | (simp; done) | (simp [*]; done)), H', ⟨by first | omega | exact Nat.le_refl _⟩, by repeat (first | exact ao_.refl _ | apply ao_.step)⟩
   rw [if_pos c4] at H
   have c4b0 : decide (10 < (a0.size : Int)) = true := decide_eq_true c4
   have c4b1 : decide (10 < a0.size) = true := decide_eq_true (by omega)
   clear c4
   have H' := Aside0.mk H
   clear H
   go_wp2
   go_meet
   case rel => exact ⟨_, (true), (by first | rfl | (simp; done) | (simp [*]; done)), H', ⟨by first | omega | exact Nat.le_refl _⟩, by repeat (first | exact ao_.refl _ | apply ao_.step)⟩
  rw [if_pos c3] at H
  have c3b0 : decide ((a0.size : Int) < 1) = true := decide_eq_true c3
  have c3b1 : decide (a0.size < 1) = true := decide_eq_true (by omega)
  clear c3
  (first | rw [c3b0] | (simp only [i64_w, i32_w]; rw [c3b0]) | (simp only [c3b1, Bool.not_true, Bool.not_false]) | (simp only [c3b0, Bool.not_true, Bool.not_false]) | skip)
  have H' := Aside0.mk H
  clear H
  go_wp2
  go_meet
  case rel => exact ⟨_, (true), (by first | rfl | (simp; done) | (simp [*]; done)), H', ⟨by first | omega | exact Nat.le_refl _⟩, by repeat (first | exact ao_.refl _ | apply ao_.step)⟩
 case rest =>
  clear HC2
  obtain ⟨kq, x21_1, rfl, HA, HJ1, ⟨mc1, rfl⟩⟩ := hcut
  cases kq with
  | zero => exact absurd HA.out (by simp [an_.j0])
  | succ kj1 =>
   have H := HA.out
   clear HA
   simp only [an_.j0] at H
   by_cases c9 : x21_1 = true
   rotate_left
   ·replace c9 := Bool.eq_false_iff.mpr c9
    subst c9
    have H1 : (an_.l0 kj1 a0 0) = some r := by rw [if_neg (show ¬ (false = true) by decide)] at H; exact H
    clear H
    have H := H1
    clear H1
    have H' := Aside0.mk H
    clear H
    go_wp2
    (try simp only [Act.put, lsa_, ls0_, ls1_])
    go_loopg [3] kj1 (fun kq v3 w' => ∃ (x3_2 : Int), v3 = .int .i64 x3_2 ∧ Aside0 (an_.l0 kq a0 x3_2 = some r) ∧ Aside0 (kq ≤ kj1) ∧ ao_ w w')
    case atStart => exact ⟨(0), (by first | rfl | (simp; done) | (simp [*]; done)), H', ⟨Nat.le_refl _⟩, by repeat (first | exact ao_.refl _ | apply ao_.step)⟩
    case round =>
     clear H'
     obtain ⟨x3_2, rfl, HA, HK2, ⟨m2, rfl⟩⟩ := hrel
     cases gk with
     | zero => exact absurd HA.out (by simp [an_.l0])
     | succ k2 =>
      have H := HA.out
      clear HA
      simp only [an_.l0] at H
      by_cases c10 : x3_2 < (a0.size : Int)
      rotate_left
      ·rw [if_neg c10] at H
       have c10b0 : decide (x3_2 < (a0.size : Int)) = false := decide_eq_false c10
       clear c10
       obtain rfl := Option.some.inj H
       go_wp2
       go_ret
       exact ⟨by first | rfl | (simp; done) | (simp [*]; done), by repeat (first | exact ao_.refl _ | apply ao_.step)⟩
      rw [if_pos c10] at H
      have c10b0 : decide (x3_2 < (a0.size : Int)) = true := decide_eq_true c10
      clear c10
      by_cases c11 : 0 ≤ x3_2
      rotate_left
      ·rw [if_neg c11] at H
       exact absurd H (by simp)
      rw [if_pos c11] at H
      have c11b0 : decide (0 ≤ x3_2) = true := decide_eq_true c11
      clear c11
      by_cases c13 : (bt a0 x3_2) < 97
      rotate_left
      ·rw [if_neg c13] at H
       have c13b0 : decide ((bt a0 x3_2) < 97) = false := decide_eq_false c13
       clear c13
       by_cases c19 : (bt a0 x3_2) > 122
       rotate_left
       ·rw [if_neg c19] at H
        have c19b0 : decide (122 < (bt a0 x3_2)) = false := decide_eq_false c19
        clear c19
        have H' := Aside0.mk H
        clear H
        have p12 : 0 ≤ (x3_2 : Int) := of_decide_eq_true (by assumption)
        have q12 : x3_2 < (a0.size : Int) := of_decide_eq_true (by assumption)
        have hx12 := bt_at a0 x3_2
        replace p12 := eq_true p12
        replace q12 := eq_true q12
        have p18 : 0 ≤ (x3_2 : Int) := of_decide_eq_true (by assumption)
        have q18 : x3_2 < (a0.size : Int) := of_decide_eq_true (by assumption)
        have hx18 := bt_at a0 x3_2
        replace p18 := eq_true p18
        replace q18 := eq_true q18
        go_wp2
        go_roundg k2
        case measure => have := HJ1.out; have := HK2.out; omega
        case rel => exact ⟨(wrap64 (x3_2 + 1)), (by first | rfl | (simp; done) | (simp [*]; done)), H', ⟨by have := HJ1.out; have := HK2.out; omega⟩, by repeat (first | exact ao_.refl _ | apply ao_.step)⟩
       rw [if_pos c19] at H
       have c19b0 : decide (122 < (bt a0 x3_2)) = true := decide_eq_true c19
       clear c19
       by_cases c21 : (bt a0 x3_2) < 48
       rotate_left
       ·rw [if_neg c21] at H
        have c21b0 : decide ((bt a0 x3_2) < 48) = false := decide_eq_false c21
        clear c21
        by_cases c23 : (bt a0 x3_2) > 57
        rotate_left
        ·rw [if_neg c23] at H
         have c23b0 : decide (57 < (bt a0 x3_2)) = false := decide_eq_false c23
         clear c23
         have H' := Aside0.mk H
         clear H
         have p12 : 0 ≤ (x3_2 : Int) := of_decide_eq_true (by assumption)
         have q12 : x3_2 < (a0.size : Int) := of_decide_eq_true (by assumption)
         have hx12 := bt_at a0 x3_2
         replace p12 := eq_true p12
         replace q12 := eq_true q12
         have p18 : 0 ≤ (x3_2 : Int) := of_decide_eq_true (by assumption)
         have q18 : x3_2 < (a0.size : Int) := of_decide_eq_true (by assumption)
         have hx18 := bt_at a0 x3_2
         replace p18 := eq_true p18
         replace q18 := eq_true q18
         have p20 : 0 ≤ (x3_2 : Int) := of_decide_eq_true (by assumption)
         have q20 : x3_2 < (a0.size : Int) := of_decide_eq_true (by assumption)
         have hx20 := bt_at a0 x3_2
         replace p20 := eq_true p20
         replace q20 := eq_true q20
         have p22 : 0 ≤ (x3_2 : Int) := of_decide_eq_true (by assumption)
         have q22 : x3_2 < (a0.size : Int) := of_decide_eq_true (by assumption)
         have hx22 := bt_at a0 x3_2
         replace p22 := eq_true p22
         replace q22 := eq_true q22
         go_wp2
         go_roundg k2
         case measure => have := HJ1.out; have := HK2.out; omega
         case rel => exact ⟨(wrap64 (x3_2 + 1)), (by first | rfl | (simp; done) | (simp [*]; done)), H', ⟨by have := HJ1.out; have := HK2.out; omega⟩, by repeat (first | exact ao_.refl _ | apply ao_.step)⟩
        rw [if_pos c23] at H
        have c23b0 : decide (57 < (bt a0 x3_2)) = true := decide_eq_true c23
        clear c23
        obtain rfl := Option.some.inj H
        have p12 : 0 ≤ (x3_2 : Int) := of_decide_eq_true (by assumption)
        have q12 : x3_2 < (a0.size : Int) := of_decide_eq_true (by assumption)
        have hx12 := bt_at a0 x3_2
        replace p12 := eq_true p12
        replace q12 := eq_true q12
        have p18 : 0 ≤ (x3_2 : Int) := of_decide_eq_true (by assumption)
        have q18 : x3_2 < (a0.size : Int) := of_decide_eq_true (by assumption)
        have hx18 := bt_at a0 x3_2
        replace p18 := eq_true p18
        replace q18 := eq_true q18
        have p20 : 0 ≤ (x3_2 : Int) := of_decide_eq_true (by assumption)
        have q20 : x3_2 < (a0.size : Int) := of_decide_eq_true (by assumption)
        have hx20 := bt_at a0 x3_2
        replace p20 := eq_true p20
        replace q20 := eq_true q20
        have p22 : 0 ≤ (x3_2 : Int) := of_decide_eq_true (by assumption)
        have q22 : x3_2 < (a0.size : Int) := of_decide_eq_true (by assumption)
        have hx22 := bt_at a0 x3_2
        replace p22 := eq_true p22
        replace q22 := eq_true q22
        go_wp2
        go_ret
        exact ⟨by first | rfl | (simp; done) | (simp [*]; done), by repeat (first | exact ao_.refl _ | apply ao_.step)⟩
       rw [if_pos c21] at H
       have c21b0 : decide ((bt a0 x3_2) < 48) = true := decide_eq_true c21
       clear c21
       obtain rfl := Option.some.inj H
       have p12 : 0 ≤ (x3_2 : Int) := of_decide_eq_true (by assumption)
       have q12 : x3_2 < (a0.size : Int) := of_decide_eq_true (by assumption)
       have hx12 := bt_at a0 x3_2
       replace p12 := eq_true p12
       replace q12 := eq_true q12
       have p18 : 0 ≤ (x3_2 : Int) := of_decide_eq_true (by assumption)
       have q18 : x3_2 < (a0.size : Int) := of_decide_eq_true (by assumption)
       have hx18 := bt_at a0 x3_2
       replace p18 := eq_true p18
       replace q18 := eq_true q18
       have p20 : 0 ≤ (x3_2 : Int) := of_decide_eq_true (by assumption)
       have q20 : x3_2 < (a0.size : Int) := of_decide_eq_true (by assumption)
       have hx20 := bt_at a0 x3_2
       replace p20 := eq_true p20
       replace q20 := eq_true q20
       go_wp2
       go_ret
       exact ⟨by first | rfl | (simp; done) | (simp [*]; done), by repeat (first | exact ao_.refl _ | apply ao_.step)⟩
      rw [if_pos c13] at H
      have c13b0 : decide ((bt a0 x3_2) < 97) = true := decide_eq_true c13
      clear c13
      by_cases c15 : (bt a0 x3_2) < 48
      rotate_left
      ·rw [if_neg c15] at H
       have c15b0 : decide ((bt a0 x3_2) < 48) = false := decide_eq_false c15
       clear c15
       by_cases c17 : (bt a0 x3_2) > 57
       rotate_left
       ·rw [if_neg c17] at H
        have c17b0 : decide (57 < (bt a0 x3_2)) = false := decide_eq_false c17
        clear c17
        have H' := Aside0.mk H
        clear H
        have p12 : 0 ≤ (x3_2 : Int) := of_decide_eq_true (by assumption)
        have q12 : x3_2 < (a0.size : Int) := of_decide_eq_true (by assumption)
        have hx12 := bt_at a0 x3_2
        replace p12 := eq_true p12
        replace q12 := eq_true q12
        have p14 : 0 ≤ (x3_2 : Int) := of_decide_eq_true (by assumption)
        have q14 : x3_2 < (a0.size : Int) := of_decide_eq_true (by assumption)
        have hx14 := bt_at a0 x3_2
        replace p14 := eq_true p14
        replace q14 := eq_true q14
        have p16 : 0 ≤ (x3_2 : Int) := of_decide_eq_true (by assumption)
        have q16 : x3_2 < (a0.size : Int) := of_decide_eq_true (by assumption)
        have hx16 := bt_at a0 x3_2
        replace p16 := eq_true p16
        replace q16 := eq_true q16
        go_wp2
        go_roundg k2
        case measure => have := HJ1.out; have := HK2.out; omega
        case rel => exact ⟨(wrap64 (x3_2 + 1)), (by first | rfl | (simp; done) | (simp [*]; done)), H', ⟨by have := HJ1.out; have := HK2.out; omega⟩, by repeat (first | exact ao_.refl _ | apply ao_.step)⟩
       rw [if_pos c17] at H
       have c17b0 : decide (57 < (bt a0 x3_2)) = true := decide_eq_true c17
       clear c17
       obtain rfl := Option.some.inj H
       have p12 : 0 ≤ (x3_2 : Int) := of_decide_eq_true (by assumption)
       have q12 : x3_2 < (a0.size : Int) := of_decide_eq_true (by assumption)
       have hx12 := bt_at a0 x3_2
       replace p12 := eq_true p12
       replace q12 := eq_true q12
       have p14 : 0 ≤ (x3_2 : Int) := of_decide_eq_true (by assumption)
       have q14 : x3_2 < (a0.size : Int) := of_decide_eq_true (by assumption)
       have hx14 := bt_at a0 x3_2
       replace p14 := eq_true p14
       replace q14 := eq_true q14
       have p16 : 0 ≤ (x3_2 : Int) := of_decide_eq_true (by assumption)
       have q16 : x3_2 < (a0.size : Int) := of_decide_eq_true (by assumption)
       have hx16 := bt_at a0 x3_2
       replace p16 := eq_true p16
       replace q16 := eq_true q16
       go_wp2
       go_ret
       exact ⟨by first | rfl | (simp; done) | (simp [*]; done), by repeat (first | exact ao_.refl _ | apply ao_.step)⟩
      rw [if_pos c15] at H
      have c15b0 : decide ((bt a0 x3_2) < 48) = true := decide_eq_true c15
      clear c15
      obtain rfl := Option.some.inj H
      have p12 : 0 ≤ (x3_2 : Int) := of_decide_eq_true (by assumption)
      have q12 : x3_2 < (a0.size : Int) := of_decide_eq_true (by assumption)
      have hx12 := bt_at a0 x3_2
      replace p12 := eq_true p12
      replace q12 := eq_true q12
      have p14 : 0 ≤ (x3_2 : Int) := of_decide_eq_true (by assumption)
      have q14 : x3_2 < (a0.size : Int) := of_decide_eq_true (by assumption)
      have hx14 := bt_at a0 x3_2
      replace p14 := eq_true p14
      replace q14 := eq_true q14
      go_wp2
      go_ret
      exact ⟨by first | rfl | (simp; done) | (simp [*]; done), by repeat (first | exact ao_.refl _ | apply ao_.step)⟩
   subst c9
   have H1 : (some false) = some r := by rw [if_pos rfl] at H; exact H
   clear H
   have H := H1
   clear H1
   obtain rfl := Option.some.inj H
   go_wp2
   go_ret
   exact ⟨by first | rfl | (simp; done) | (simp [*]; done), by repeat (first | exact ao_.refl _ | apply ao_.step)⟩
def strings_Contains.f (a0 : ByteArray) (a1 : ByteArray) : Option (Bool) := match a1.data.toList with
 | [c] => some (decide (0 ≤ Go.Lib.indexByte a0.data.toList c))
 | _ => none
theorem strings_Contains.calls (a0 : ByteArray) (a1 : ByteArray) (r : Bool) (w : World) (h : strings_Contains.f a0 a1 = some r) :
  Calls Tryd.prog 76 #[.string a0, .string a1] w fun e w' => e = .returned (.bool r) ∧ ao_ w w' := by
 obtain ⟨d⟩ := a1
 obtain ⟨l⟩ := d
 match l, h with
 | [c], h =>
  obtain rfl := Option.some.inj h
  refine (Go.Proofs.Tryd.strings_Contains_one a0 c w).mono ?_
  rintro e w' ⟨rfl, rfl⟩
  exact ⟨rfl, ao_.refl _⟩
end Go.Proofs.YtjebkmfljcanlaaDoor.Q
