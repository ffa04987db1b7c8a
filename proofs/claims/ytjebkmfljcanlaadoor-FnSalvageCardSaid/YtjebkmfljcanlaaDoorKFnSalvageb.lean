/- a byte of a line that changes costs the block of this line alone This text holds the functions' walks and the words for them. -/
import Derived.Lib.SliceRun
import Derived.Laws.CopyRow
import Derived.Lib.Overlaps
import Derived.Deep.RegionLaw
import Derived.Laws.Externs
import Derived.Lib.AppendZerosOnto
import Derived.Lib.Walk
import Derived.Test.YtjebkmfljcanlaaDoorKFnSalvagea
set_option linter.unusedVariables false
set_option linter.unusedSimpArgs false
namespace Go.Proofs.YtjebkmfljcanlaaDoor.Q
open Go.RowKit Go.Proofs.YtjebkmfljcanlaaDoorW.PrintWords Go.Proofs.YtjebkmfljcanlaaDoorW.PrintLast Go.Proofs.YtjebkmfljcanlaaDoorW.PrintMore
attribute [local go_sem] aM_ aN_ be_ bc_ aC_ aD_ aL_ aK_
mutual
def aq_.j0 : Nat → ByteArray → Bool → Option (Bool)
 | 0, _, _ => none
 | k + 1, x0, x21 => if x21 = true then (some false) else (aq_.l0 k x0 0)
def aq_.l0 : Nat → ByteArray → Int → Option (Bool)
 | 0, _, _ => none
 | k + 1, x0, x3 => if x3 < (x0.size : Int) then (if 0 ≤ x3 then (if (bt x0 x3) < 97 then (if (bt x0 x3) < 48 then (some false) else (if (bt x0 x3) > 57 then (some false) else (aq_.l0 k x0 (wrap64 (x3 + 1))))) else (if (bt x0 x3) > 122 then (if (bt x0 x3) < 48 then (some false) else (if (bt x0 x3) > 57 then (some false) else (aq_.l0 k x0 (wrap64 (x3 + 1))))) else (aq_.l0 k x0 (wrap64 (x3 + 1))))) else (none)) else (some true)
end
def aq_.f (k : Nat) (a0 : ByteArray) : Option (Bool) := if (a0.size : Int) < 1 then (aq_.j0 k a0 true) else (if (a0.size : Int) > 10 then (aq_.j0 k a0 true) else (if 0 < (a0.size : Int) then (if (bt a0 0) < 97 then (aq_.j0 k a0 true) else (aq_.j0 k a0 (decide ((bt a0 0) > 122)))) else (none)))
set_option maxHeartbeats 8000000 in
set_option maxRecDepth 100000 in
theorem aq_.calls (k : Nat) (a0 : ByteArray) (r : Bool) (w : World) (h : aq_.f k a0 = some r) :
  Calls Tryd.prog 75 #[.string a0] w fun e w' => e = .returned (.bool r) ∧ an_ w w' := by
 have H : (if (a0.size : Int) < 1 then (aq_.j0 k a0 true) else (if (a0.size : Int) > 10 then (aq_.j0 k a0 true) else (if 0 < (a0.size : Int) then (if (bt a0 0) < 97 then (aq_.j0 k a0 true) else (aq_.j0 k a0 (decide ((bt a0 0) > 122)))) else (none)))) = some r := h
 clear h
 have HC2 := Aside0.mk H
 clear H
 go_enter Tryd.func75, Tryd.ntmps75
 go_upto_region 1 with (fail)
 go_cut [21] (fun v21 wc => ∃ (kq : Nat) (x21_1 : Bool), v21 = .bool x21_1 ∧ Aside0 (aq_.j0 kq a0 x21_1 = some r) ∧ Aside0 (kq ≤ k) ∧ an_ w wc)
 case first =>
  have H := HC2.out
  clear HC2
  by_cases c3 : (a0.size : Int) < 1
  rotate_left
  ·rw [if_neg c3] at H
   have c3b0 : decide ((a0.size : Int) < 1) = false := decide_eq_false c3
   have c3b1 : decide (a0.size < 1) = false := decide_eq_false (by omega)
   clear c3
   (first | rw [c3b0] | (simp only [i64_w, i32_w]; rw [c3b0]) | (simp only [c3b1, Bool.not_true, Bool.not_false]) | (simp only [c3b0, Bool.not_true, Bool.not_false]) | skip)
   by_cases c4 : (a0.size : Int) > 10
   rotate_left
   ·rw [if_neg c4] at H
    have c4b0 : decide (10 < (a0.size : Int)) = false := decide_eq_false c4
    have c4b1 : decide (10 < a0.size) = false := decide_eq_false (by omega)
    clear c4
    by_cases c5 : 0 < (a0.size : Int)
    rotate_left
    ·rw [if_neg c5] at H
     exact absurd H (by simp)
    rw [if_pos c5] at H
    have c5b0 : decide (0 < (a0.size : Int)) = true := decide_eq_true c5
    have c5b1 : decide (0 < a0.size) = true := decide_eq_true (by omega)
    clear c5
    by_cases c7 : (bt a0 0) < 97
    rotate_left
    ·rw [if_neg c7] at H
     have c7b0 : decide ((bt a0 0) < 97) = false := decide_eq_false c7
     clear c7
     have H' := Aside0.mk H
     clear H
     have p6 : 0 ≤ (0 : Int) := (by omega)
     have q6 : 0 < a0.size := (by have : (0 : Int) < (a0.size : Int) := of_decide_eq_true (by assumption); omega)
     have hx6 : ∀ h : 0 < a0.size, ((a0[0]'h).toNat : Int) = bt a0 0 := bt_at a0 0
     clear p6
     have qi6 : (0 < (a0.size : Int)) = True := eq_true (of_decide_eq_true (by assumption))
     replace q6 := eq_true q6
     have p8 : 0 ≤ (0 : Int) := (by omega)
     have q8 : 0 < a0.size := (by have : (0 : Int) < (a0.size : Int) := of_decide_eq_true (by assumption); omega)
     have hx8 : ∀ h : 0 < a0.size, ((a0[0]'h).toNat : Int) = bt a0 0 := bt_at a0 0
     clear p8
     have qi8 : (0 < (a0.size : Int)) = True := eq_true (of_decide_eq_true (by assumption))
     replace q8 := eq_true q8
     go_wp2
     go_meet
     case rel => exact ⟨_, (decide ((bt a0 0) > 122)), (by first | rfl | (simp; done) | (simp [*]; done)), H', ⟨by first | omega | exact Nat.le_refl _⟩, by repeat (first | exact an_.refl _ | apply an_.step)⟩
    rw [if_pos c7] at H
    have c7b0 : decide ((bt a0 0) < 97) = true := decide_eq_true c7
    clear c7
    have H' := Aside0.mk H
    clear H
    have p6 : 0 ≤ (0 : Int) := (by omega)
    have q6 : 0 < a0.size := (by have : (0 : Int) < (a0.size : Int) := of_decide_eq_true (by assumption); omega)
    have hx6 : ∀ h : 0 < a0.size, ((a0[0]'h).toNat : Int) = bt a0 0 := bt_at a0 0
    clear p6
    have qi6 : (0 < (a0.size : Int)) = True := eq_true (of_decide_eq_true (by assumption))
    replace q6 := eq_true q6
    go_wp2
    go_meet
    case rel => exact ⟨_, (true), (by first | rfl | (simp; done) | (simp [*]; done)), H', ⟨by first | omega | exact Nat.le_refl _⟩, by repeat (first | exact an_.refl _ | apply an_.step)⟩
   rw [if_pos c4] at H
   have c4b0 : decide (10 < (a0.size : Int)) = true := decide_eq_true c4
   have c4b1 : decide (10 < a0.size) = true := decide_eq_true (by omega)
   clear c4
   have H' := Aside0.mk H
   clear H
   go_wp2
   go_meet
   case rel => exact ⟨_, (true), (by first | rfl | (simp; done) | (simp [*]; done)), H', ⟨by first | omega | exact Nat.le_refl _⟩, by repeat (first | exact an_.refl _ | apply an_.step)⟩
  rw [if_pos c3] at H
  have c3b0 : decide ((a0.size : Int) < 1) = true := decide_eq_true c3
  have c3b1 : decide (a0.size < 1) = true := decide_eq_true (by omega)
  clear c3
  (first | rw [c3b0] | (simp only [i64_w, i32_w]; rw [c3b0]) | (simp only [c3b1, Bool.not_true, Bool.not_false]) | (simp only [c3b0, Bool.not_true, Bool.not_false]) | skip)
  have H' := Aside0.mk H
  clear H
  go_wp2
  go_meet
  case rel => exact ⟨_, (true), (by first | rfl | (simp; done) | (simp [*]; done)), H', ⟨by first | omega | exact Nat.le_refl _⟩, by repeat (first | exact an_.refl _ | apply an_.step)⟩
 case rest =>
  clear HC2
  obtain ⟨kq, x21_1, rfl, HA, HJ1, ⟨mc1, rfl⟩⟩ := hcut
  cases kq with
  | zero => exact absurd HA.out (by simp [aq_.j0])
  | succ kj1 =>
   have H := HA.out
   clear HA
   simp only [aq_.j0] at H
   by_cases c9 : x21_1 = true
   rotate_left
   ·replace c9 := Bool.eq_false_iff.mpr c9
    subst c9
    have H1 : (aq_.l0 kj1 a0 0) = some r := by rw [if_neg (show ¬ (false = true) by decide)] at H; exact H
    clear H
    have H := H1
    clear H1
    have H' := Aside0.mk H
    clear H
    go_wp2
    (try simp only [Act.put, lsa_, ls0_, ls1_])
    go_loopg [3] kj1 (fun kq v3 w' => ∃ (x3_2 : Int), v3 = .int .i64 x3_2 ∧ Aside0 (aq_.l0 kq a0 x3_2 = some r) ∧ Aside0 (kq ≤ kj1) ∧ an_ w w')
    case atStart => exact ⟨(0), (by first | rfl | (simp; done) | (simp [*]; done)), H', ⟨Nat.le_refl _⟩, by repeat (first | exact an_.refl _ | apply an_.step)⟩
    case round =>
     clear H'
     obtain ⟨x3_2, rfl, HA, HK2, ⟨m2, rfl⟩⟩ := hrel
     cases gk with
     | zero => exact absurd HA.out (by simp [aq_.l0])
     | succ k2 =>
      have H := HA.out
      clear HA
      simp only [aq_.l0] at H
      by_cases c10 : x3_2 < (a0.size : Int)
      rotate_left
      ·rw [if_neg c10] at H
       have c10b0 : decide (x3_2 < (a0.size : Int)) = false := decide_eq_false c10
       clear c10
       obtain rfl := Option.some.inj H
       go_wp2
       go_ret
       exact ⟨by first | rfl | (simp; done) | (simp [*]; done), by repeat (first | exact an_.refl _ | apply an_.step)⟩
      rw [if_pos c10] at H
      have c10b0 : decide (x3_2 < (a0.size : Int)) = true := decide_eq_true c10
      clear c10
      by_cases c11 : 0 ≤ x3_2
      rotate_left
      ·rw [if_neg c11] at H
       exact absurd H (by simp)
      rw [if_pos c11] at H
      have c11b0 : decide (0 ≤ x3_2) = true := decide_eq_true c11
      clear c11
      by_cases c13 : (bt a0 x3_2) < 97
      rotate_left
      ·rw [if_neg c13] at H
       have c13b0 : decide ((bt a0 x3_2) < 97) = false := decide_eq_false c13
       clear c13
       by_cases c19 : (bt a0 x3_2) > 122
       rotate_left
       ·rw [if_neg c19] at H
        have c19b0 : decide (122 < (bt a0 x3_2)) = false := decide_eq_false c19
        clear c19
        have H' := Aside0.mk H
        clear H
        have p12 : 0 ≤ (x3_2 : Int) := of_decide_eq_true (by assumption)
        have q12 : x3_2 < (a0.size : Int) := of_decide_eq_true (by assumption)
        have hx12 := bt_at a0 x3_2
        replace p12 := eq_true p12
        replace q12 := eq_true q12
        have p18 : 0 ≤ (x3_2 : Int) := of_decide_eq_true (by assumption)
        have q18 : x3_2 < (a0.size : Int) := of_decide_eq_true (by assumption)
        have hx18 := bt_at a0 x3_2
        replace p18 := eq_true p18
        replace q18 := eq_true q18
        go_wp2
        go_roundg k2
        case measure => have := HJ1.out; have := HK2.out; omega
        case rel => exact ⟨(wrap64 (x3_2 + 1)), (by first | rfl | (simp; done) | (simp [*]; done)), H', ⟨by have := HJ1.out; have := HK2.out; omega⟩, by repeat (first | exact an_.refl _ | apply an_.step)⟩
       rw [if_pos c19] at H
       have c19b0 : decide (122 < (bt a0 x3_2)) = true := decide_eq_true c19
       clear c19
       by_cases c21 : (bt a0 x3_2) < 48
       rotate_left
       ·rw [if_neg c21] at H
        have c21b0 : decide ((bt a0 x3_2) < 48) = false := decide_eq_false c21
        clear c21
        by_cases c23 : (bt a0 x3_2) > 57
        rotate_left
        ·rw [if_neg c23] at H
         have c23b0 : decide (57 < (bt a0 x3_2)) = false := decide_eq_false c23
         clear c23
         have H' := Aside0.mk H
         clear H
         have p12 : 0 ≤ (x3_2 : Int) := of_decide_eq_true (by assumption)
         have q12 : x3_2 < (a0.size : Int) := of_decide_eq_true (by assumption)
         have hx12 := bt_at a0 x3_2
         replace p12 := eq_true p12
         replace q12 := eq_true q12
         have p18 : 0 ≤ (x3_2 : Int) := of_decide_eq_true (by assumption)
         have q18 : x3_2 < (a0.size : Int) := of_decide_eq_true (by assumption)
         have hx18 := bt_at a0 x3_2
         replace p18 := eq_true p18
         replace q18 := eq_true q18
         have p20 : 0 ≤ (x3_2 : Int) := of_decide_eq_true (by assumption)
         have q20 : x3_2 < (a0.size : Int) := of_decide_eq_true (by assumption)
         have hx20 := bt_at a0 x3_2
         replace p20 := eq_true p20
         replace q20 := eq_true q20
         have p22 : 0 ≤ (x3_2 : Int) := of_decide_eq_true (by assumption)
         have q22 : x3_2 < (a0.size : Int) := of_decide_eq_true (by assumption)
         have hx22 := bt_at a0 x3_2
         replace p22 := eq_true p22
         replace q22 := eq_true q22
         go_wp2
         go_roundg k2
         case measure => have := HJ1.out; have := HK2.out; omega
         case rel => exact ⟨(wrap64 (x3_2 + 1)), (by first | rfl | (simp; done) | (simp [*]; done)), H', ⟨by have := HJ1.out; have := HK2.out; omega⟩, by repeat (first | exact an_.refl _ | apply an_.step)⟩
        rw [if_pos c23] at H
        have c23b0 : decide (57 < (bt a0 x3_2)) = true := decide_eq_true c23
        clear c23
        obtain rfl := Option.some.inj H
        have p12 : 0 ≤ (x3_2 : Int) := of_decide_eq_true (by assumption)
        have q12 : x3_2 < (a0.size : Int) := of_decide_eq_true (by assumption)
        have hx12 := bt_at a0 x3_2
        replace p12 := eq_true p12
        replace q12 := eq_true q12
        have p18 : 0 ≤ (x3_2 : Int) := of_decide_eq_true (by assumption)
        have q18 : x3_2 < (a0.size : Int) := of_decide_eq_true (by assumption)
        have hx18 := bt_at a0 x3_2
        replace p18 := eq_true p18
        replace q18 := eq_true q18
        have p20 : 0 ≤ (x3_2 : Int) := of_decide_eq_true (by assumption)
        have q20 : x3_2 < (a0.size : Int) := of_decide_eq_true (by assumption)
        have hx20 := bt_at a0 x3_2
        replace p20 := eq_true p20
        replace q20 := eq_true q20
        have p22 : 0 ≤ (x3_2 : Int) := of_decide_eq_true (by assumption)
        have q22 : x3_2 < (a0.size : Int) := of_decide_eq_true (by assumption)
        have hx22 := bt_at a0 x3_2
        replace p22 := eq_true p22
        replace q22 := eq_true q22
        go_wp2
        go_ret
        exact ⟨by first | rfl | (simp; done) | (simp [*]; done), by repeat (first | exact an_.refl _ | apply an_.step)⟩
       rw [if_pos c21] at H
       have c21b0 : decide ((bt a0 x3_2) < 48) = true := decide_eq_true c21
       clear c21
       obtain rfl := Option.some.inj H
       have p12 : 0 ≤ (x3_2 : Int) := of_decide_eq_true (by assumption)
       have q12 : x3_2 < (a0.size : Int) := of_decide_eq_true (by assumption)
       have hx12 := bt_at a0 x3_2
       replace p12 := eq_true p12
       replace q12 := eq_true q12
       have p18 : 0 ≤ (x3_2 : Int) := of_decide_eq_true (by assumption)
       have q18 : x3_2 < (a0.size : Int) := of_decide_eq_true (by assumption)
       have hx18 := bt_at a0 x3_2
       replace p18 := eq_true p18
       replace q18 := eq_true q18
       have p20 : 0 ≤ (x3_2 : Int) := of_decide_eq_true (by assumption)
       have q20 : x3_2 < (a0.size : Int) := of_decide_eq_true (by assumption)
       have hx20 := bt_at a0 x3_2
       replace p20 := eq_true p20
       replace q20 := eq_true q20
       go_wp2
       go_ret
       exact ⟨by first | rfl | (simp; done) | (simp [*]; done), by repeat (first | exact an_.refl _ | apply an_.step)⟩
      rw [if_pos c13] at H
      have c13b0 : decide ((bt a0 x3_2) < 97) = true := decide_eq_true c13
      clear c13
      by_cases c15 : (bt a0 x3_2) < 48
      rotate_left
      ·rw [if_neg c15] at H
       have c15b0 : decide ((bt a0 x3_2) < 48) = false := decide_eq_false c15
       clear c15
       by_cases c17 : (bt a0 x3_2) > 57
       rotate_left
       ·rw [if_neg c17] at H
        have c17b0 : decide (57 < (bt a0 x3_2)) = false := decide_eq_false c17
        clear c17
        have H' := Aside0.mk H
        clear H
        have p12 : 0 ≤ (x3_2 : Int) := of_decide_eq_true (by assumption)
        have q12 : x3_2 < (a0.size : Int) := of_decide_eq_true (by assumption)
        have hx12 := bt_at a0 x3_2
        replace p12 := eq_true p12
        replace q12 := eq_true q12
        have p14 : 0 ≤ (x3_2 : Int) := of_decide_eq_true (by assumption)
        have q14 : x3_2 < (a0.size : Int) := of_decide_eq_true (by assumption)
        have hx14 := bt_at a0 x3_2
        replace p14 := eq_true p14
        replace q14 := eq_true q14
        have p16 : 0 ≤ (x3_2 : Int) := of_decide_eq_true (by assumption)
        have q16 : x3_2 < (a0.size : Int) := of_decide_eq_true (by assumption)
        have hx16 := bt_at a0 x3_2
        replace p16 := eq_true p16
        replace q16 := eq_true q16
        go_wp2
        go_roundg k2
        case measure => have := HJ1.out; have := HK2.out; omega
        case rel => exact ⟨(wrap64 (x3_2 + 1)), (by first | rfl | (simp; done) | (simp [*]; done)), H', ⟨by have := HJ1.out; have := HK2.out; omega⟩, by repeat (first | exact an_.refl _ | apply an_.step)⟩
       rw [if_pos c17] at H
       have c17b0 : decide (57 < (bt a0 x3_2)) = true := decide_eq_true c17
       clear c17
       obtain rfl := Option.some.inj H
       have p12 : 0 ≤ (x3_2 : Int) := of_decide_eq_true (by assumption)
       have q12 : x3_2 < (a0.size : Int) := of_decide_eq_true (by assumption)
       have hx12 := bt_at a0 x3_2
       replace p12 := eq_true p12
       replace q12 := eq_true q12
       have p14 : 0 ≤ (x3_2 : Int) := of_decide_eq_true (by assumption)
       have q14 : x3_2 < (a0.size : Int) := of_decide_eq_true (by assumption)
       have hx14 := bt_at a0 x3_2
       replace p14 := eq_true p14
       replace q14 := eq_true q14
       have p16 : 0 ≤ (x3_2 : Int) := of_decide_eq_true (by assumption)
       have q16 : x3_2 < (a0.size : Int) := of_decide_eq_true (by assumption)
       have hx16 := bt_at a0 x3_2
       replace p16 := eq_true p16
       replace q16 := eq_true q16
       go_wp2
       go_ret
       exact ⟨by first | rfl | (simp; done) | (simp [*]; done), by repeat (first | exact an_.refl _ | apply an_.step)⟩
      rw [if_pos c15] at H
      have c15b0 : decide ((bt a0 x3_2) < 48) = true := decide_eq_true c15
      clear c15
      obtain rfl := Option.some.inj H
      have p12 : 0 ≤ (x3_2 : Int) := of_decide_eq_true (by assumption)
      have q12 : x3_2 < (a0.size : Int) := of_decide_eq_true (by assumption)
      have hx12 := bt_at a0 x3_2
      replace p12 := eq_true p12
      replace q12 := eq_true q12
      have p14 : 0 ≤ (x3_2 : Int) := of_decide_eq_true (by assumption)
      have q14 : x3_2 < (a0.size : Int) := of_decide_eq_true (by assumption)
      have hx14 := bt_at a0 x3_2
      replace p14 := eq_true p14
      replace q14 := eq_true q14
      go_wp2
      go_ret
      exact ⟨by first | rfl | (simp; done) | (simp [*]; done), by repeat (first | exact an_.refl _ | apply an_.step)⟩
   subst c9
   have H1 : (some false) = some r := by rw [if_pos rfl] at H; exact H
   clear H
   have H := H1
   clear H1
   obtain rfl := Option.some.inj H
   go_wp2
   go_ret
   exact ⟨by first | rfl | (simp; done) | (simp [*]; done), by repeat (first | exact an_.refl _ | apply an_.step)⟩
def strings_Contains.f (a0 : ByteArray) (a1 : ByteArray) : Option (Bool) := match a1.data.toList with
 | [c] => some (decide (0 ≤ Go.Lib.indexByte a0.data.toList c))
 | _ => none
theorem strings_Contains.calls (a0 : ByteArray) (a1 : ByteArray) (r : Bool) (w : World) (h : strings_Contains.f a0 a1 = some r) :
  Calls Tryd.prog 76 #[.string a0, .string a1] w fun e w' => e = .returned (.bool r) ∧ an_ w w' := by
 obtain ⟨d⟩ := a1
 obtain ⟨l⟩ := d
 match l, h with
 | [c], h =>
  obtain rfl := Option.some.inj h
  refine (Go.Proofs.Tryd.strings_Contains_one a0 c w).mono ?_
  rintro e w' ⟨rfl, rfl⟩
  exact ⟨rfl, an_.refl _⟩
def aT_.f (k : Nat) (a0_0 : ByteArray) (a0_1 : ByteArray) (a0_2 : ByteArray) : Option (Bool) := (aq_.f k a0_0).bind fun t102 => (if t102 = true then ((aq_.f k a0_1).bind fun t103 => (if t103 = true then (if (a0_2.size : Int) ≤ 400 then ((strings_Contains.f a0_2 (⟨#[10]⟩ : ByteArray)).bind fun t104 => (some (!t104))) else (some false)) else (some false))) else (some false))
set_option maxHeartbeats 8000000 in
set_option maxRecDepth 100000 in
theorem aT_.calls (k : Nat) (a0_0 : ByteArray) (a0_1 : ByteArray) (a0_2 : ByteArray) (r : Bool) (w : World) (h : aT_.f k a0_0 a0_1 a0_2 = some r) :
  Calls Tryd.prog 53 #[.agg #[.string a0_0, .string a0_1, .string a0_2]] w fun e w' => e = .returned (.bool r) ∧ Below w.heap.size w w' := by
 have hu43 := Tryd.underlying43
 have HB := Aside0.mk (Below.refl w.heap.size w)
 have H : ((aq_.f k a0_0).bind fun t102 => (if t102 = true then ((aq_.f k a0_1).bind fun t103 => (if t103 = true then (if (a0_2.size : Int) ≤ 400 then ((strings_Contains.f a0_2 (⟨#[10]⟩ : ByteArray)).bind fun t104 => (some (!t104))) else (some false)) else (some false))) else (some false))) = some r := h
 clear h
 replace H := Option.bind_eq_some_iff.mp H
 obtain ⟨t102, A20, H⟩ := H
 (try dsimp only at H)
 have A2 := Aside0.mk A20
 clear A20
 by_cases c3 : t102 = true
 rotate_left
 ·replace c3 := Bool.eq_false_iff.mpr c3
  subst c3
  have H1 : (some false) = some r := by rw [if_neg (show ¬ (false = true) by decide)] at H; exact H
  clear H
  have H := H1
  clear H1
  obtain rfl := Option.some.inj H
  go_enter Tryd.func53, Tryd.ntmps53
  go_wp2_with (first | ((with_reducible refine aS_ (N := 1) rfl ?_); (try (refine gate_guard (by rfl) ?_; dsimp only)); refine bB_ ?hg (N := 1) ?hd (cs := #[.string a0_0, .string a0_1, .string a0_2]) (t := 43) ?hr ?_; (case hd => rfl); (case hg => rfl); (case hr => (go_simp; try rfl)); intro gb101 hg w14 hbox hb; have BK101 := Aside0.mk (hbox); have GW101 := Aside0.mk ((by rw [hg]; exact (ak_ (bz HB.out)) : w.heap.size ≤ gb101)); have GE101 := GW101; replace HB := Aside0.mk (ah_ (bz HB.out) hb); clear hb hbox hg; obtain ⟨hcz15_0, hcz15_1, hcz15_2⟩ := cz3_ BK101.out; obtain ⟨hfz15_0, hfz15_1, hfz15_2⟩ := fz3_ BK101.out) | ((with_reducible refine al_ (f := 75) rfl ?_); refine bf_ (some 5) rfl rfl Tryd.func75 (by kernel_rfl) rfl #[.string a0_0] rfl (by first | rfl | (simp only [lma_, lmc_, lmn_]; first | done | rfl)) ?_; (with_reducible refine (aq_.calls k a0_0 false _ A2.out).mono ?_); rintro e w' ⟨rfl, ⟨nd, rfl⟩⟩; refine ⟨_, rfl, ?_⟩))
  go_ret
  exact ⟨by first | rfl | (simp [*, aw_, av_] <;> rfl), bq⟩
 subst c3
 have H1 : ((aq_.f k a0_1).bind fun t103 => (if t103 = true then (if (a0_2.size : Int) ≤ 400 then ((strings_Contains.f a0_2 (⟨#[10]⟩ : ByteArray)).bind fun t104 => (some (!t104))) else (some false)) else (some false))) = some r := by rw [if_pos rfl] at H; exact H
 clear H
 have H := H1
 clear H1
 replace H := Option.bind_eq_some_iff.mp H
 obtain ⟨t103, A40, H⟩ := H
 (try dsimp only at H)
 have A4 := Aside0.mk A40
 clear A40
 by_cases c5 : t103 = true
 rotate_left
 ·replace c5 := Bool.eq_false_iff.mpr c5
  subst c5
  have H1 : (some false) = some r := by rw [if_neg (show ¬ (false = true) by decide)] at H; exact H
  clear H
  have H := H1
  clear H1
  obtain rfl := Option.some.inj H
  go_enter Tryd.func53, Tryd.ntmps53
  go_wp2_with (first | ((with_reducible refine aS_ (N := 1) rfl ?_); (try (refine gate_guard (by rfl) ?_; dsimp only)); refine bB_ ?hg (N := 1) ?hd (cs := #[.string a0_0, .string a0_1, .string a0_2]) (t := 43) ?hr ?_; (case hd => rfl); (case hg => rfl); (case hr => (go_simp; try rfl)); intro gb101 hg w12 hbox hb; have BK101 := Aside0.mk (hbox); have GW101 := Aside0.mk ((by rw [hg]; exact (ak_ (bz HB.out)) : w.heap.size ≤ gb101)); have GE101 := GW101; replace HB := Aside0.mk (ah_ (bz HB.out) hb); clear hb hbox hg; obtain ⟨hcz13_0, hcz13_1, hcz13_2⟩ := cz3_ BK101.out; obtain ⟨hfz13_0, hfz13_1, hfz13_2⟩ := fz3_ BK101.out) | ((with_reducible refine al_ (f := 75) rfl ?_); refine bf_ (some 5) rfl rfl Tryd.func75 (by kernel_rfl) rfl #[.string a0_0] rfl (by first | rfl | (simp only [lma_, lmc_, lmn_]; first | done | rfl)) ?_; (with_reducible refine (aq_.calls k a0_0 true _ A2.out).mono ?_); rintro e w' ⟨rfl, ⟨nd, rfl⟩⟩; refine ⟨_, rfl, ?_⟩) | (go_at_call 75; (with_reducible refine (aq_.calls k a0_1 false _ A4.out).mono ?_); rintro e w' ⟨rfl, ⟨nd, rfl⟩⟩))
  go_ret
  exact ⟨by first | rfl | (simp [*, aw_, av_] <;> rfl), bq⟩
 subst c5
 have H1 : (if (a0_2.size : Int) ≤ 400 then ((strings_Contains.f a0_2 (⟨#[10]⟩ : ByteArray)).bind fun t104 => (some (!t104))) else (some false)) = some r := by rw [if_pos rfl] at H; exact H
 clear H
 have H := H1
 clear H1
 by_cases c6 : (a0_2.size : Int) ≤ 400
 rotate_left
 ·rw [if_neg c6] at H
  have c6b0 : decide ((a0_2.size : Int) ≤ 400) = false := decide_eq_false c6
  have c6b1 : decide (a0_2.size ≤ 400) = false := decide_eq_false (by omega)
  clear c6
  obtain rfl := Option.some.inj H
  go_enter Tryd.func53, Tryd.ntmps53
  go_wp2_with (first | ((with_reducible refine aS_ (N := 1) rfl ?_); (try (refine gate_guard (by rfl) ?_; dsimp only)); refine bB_ ?hg (N := 1) ?hd (cs := #[.string a0_0, .string a0_1, .string a0_2]) (t := 43) ?hr ?_; (case hd => rfl); (case hg => rfl); (case hr => (go_simp; try rfl)); intro gb101 hg w10 hbox hb; have BK101 := Aside0.mk (hbox); have GW101 := Aside0.mk ((by rw [hg]; exact (ak_ (bz HB.out)) : w.heap.size ≤ gb101)); have GE101 := GW101; replace HB := Aside0.mk (ah_ (bz HB.out) hb); clear hb hbox hg; obtain ⟨hcz11_0, hcz11_1, hcz11_2⟩ := cz3_ BK101.out; obtain ⟨hfz11_0, hfz11_1, hfz11_2⟩ := fz3_ BK101.out) | ((with_reducible refine al_ (f := 75) rfl ?_); refine bf_ (some 5) rfl rfl Tryd.func75 (by kernel_rfl) rfl #[.string a0_0] rfl (by first | rfl | (simp only [lma_, lmc_, lmn_]; first | done | rfl)) ?_; (with_reducible refine (aq_.calls k a0_0 true _ A2.out).mono ?_); rintro e w' ⟨rfl, ⟨nd, rfl⟩⟩; refine ⟨_, rfl, ?_⟩) | (go_at_call 75; (with_reducible refine (aq_.calls k a0_1 true _ A4.out).mono ?_); rintro e w' ⟨rfl, ⟨nd, rfl⟩⟩))
  go_ret
  exact ⟨by first | rfl | (simp [*, aw_, av_] <;> rfl), bq⟩
 rw [if_pos c6] at H
 have c6b0 : decide ((a0_2.size : Int) ≤ 400) = true := decide_eq_true c6
 have c6b1 : decide (a0_2.size ≤ 400) = true := decide_eq_true (by omega)
 clear c6
 replace H := Option.bind_eq_some_iff.mp H
 obtain ⟨t104, A70, H⟩ := H
 (try dsimp only at H)
 have A7 := Aside0.mk A70
 clear A70
 obtain rfl := Option.some.inj H
 go_enter Tryd.func53, Tryd.ntmps53
 go_wp2_with (first | ((with_reducible refine aS_ (N := 1) rfl ?_); (try (refine gate_guard (by rfl) ?_; dsimp only)); refine bB_ ?hg (N := 1) ?hd (cs := #[.string a0_0, .string a0_1, .string a0_2]) (t := 43) ?hr ?_; (case hd => rfl); (case hg => rfl); (case hr => (go_simp; try rfl)); intro gb101 hg w8 hbox hb; have BK101 := Aside0.mk (hbox); have GW101 := Aside0.mk ((by rw [hg]; exact (ak_ (bz HB.out)) : w.heap.size ≤ gb101)); have GE101 := GW101; replace HB := Aside0.mk (ah_ (bz HB.out) hb); clear hb hbox hg; obtain ⟨hcz9_0, hcz9_1, hcz9_2⟩ := cz3_ BK101.out; obtain ⟨hfz9_0, hfz9_1, hfz9_2⟩ := fz3_ BK101.out) | ((with_reducible refine al_ (f := 75) rfl ?_); refine bf_ (some 5) rfl rfl Tryd.func75 (by kernel_rfl) rfl #[.string a0_0] rfl (by first | rfl | (simp only [lma_, lmc_, lmn_]; first | done | rfl)) ?_; (with_reducible refine (aq_.calls k a0_0 true _ A2.out).mono ?_); rintro e w' ⟨rfl, ⟨nd, rfl⟩⟩; refine ⟨_, rfl, ?_⟩) | (go_at_call 75; (with_reducible refine (aq_.calls k a0_1 true _ A4.out).mono ?_); rintro e w' ⟨rfl, ⟨nd, rfl⟩⟩) | (go_at_call 76; (with_reducible refine (strings_Contains.calls a0_2 (⟨#[10]⟩ : ByteArray) t104 _ A7.out).mono ?_); rintro e w' ⟨rfl, ⟨nd, rfl⟩⟩))
 go_ret
 exact ⟨by first | rfl | (simp [*, aw_, av_] <;> rfl), bq⟩
def ax_.j0 : Nat → ByteArray → Bool → Option (ByteArray × ByteArray × ByteArray × Int)
 | 0, _, _ => none
 | k + 1, x0, x14 => if x14 = true then (some ((⟨#[]⟩ : ByteArray), (⟨#[]⟩ : ByteArray), (⟨#[]⟩ : ByteArray), 9)) else (if 6 ≤ (x0.size : Int) then ((some (x0.extract 6 x0.size : ByteArray)).bind fun y102 => (if 5 ≤ (x0.size : Int) then ((bT_.f k y102).bind fun t104 => (if (x0.extract 0 5).toList = t104.toList then ((strings_SplitN.f y102 (⟨#[32]⟩ : ByteArray) 3).bind fun t105 => (if (t105.length : Int) < 3 then (some ((⟨#[]⟩ : ByteArray), (⟨#[]⟩ : ByteArray), (⟨#[]⟩ : ByteArray), 9)) else (if 0 < (t105.length : Int) then (if 1 < (t105.length : Int) then (if 2 < (t105.length : Int) then ((aT_.f k (rdOf ByteArray.empty t105 0) (rdOf ByteArray.empty t105 1) (rdOf ByteArray.empty t105 2)).bind fun t112 => (if t112 = true then (some (rdOf ByteArray.empty t105 0, rdOf ByteArray.empty t105 1, rdOf ByteArray.empty t105 2, 0)) else (some ((⟨#[]⟩ : ByteArray), (⟨#[]⟩ : ByteArray), (⟨#[]⟩ : ByteArray), 9)))) else (none)) else (none)) else (none)))) else (some ((⟨#[]⟩ : ByteArray), (⟨#[]⟩ : ByteArray), (⟨#[]⟩ : ByteArray), 10)))) else (none))) else (none))
def ax_.f (k : Nat) (a0 : ByteArray) : Option (ByteArray × ByteArray × ByteArray × Int) := if (a0.size : Int) < 6 then (ax_.j0 k a0 true) else (if 5 < (a0.size : Int) then (ax_.j0 k a0 ((bt a0 5) != 32)) else (none))
def ax_.T9 : Bool × List (List Nat × List Nat) := (true, [([], []), ([0], [0]), ([1], [1]), ([], []), ([3], [3]), ([4], [4]), ([], []), ([6], [6]), ([7], [7]), ([2, 5, 8], [2, 5, 8]), ([], []), ([10, 9, 0, 1, 2, 3, 4, 5, 6, 7, 8, 9, 10], [9, 10])])
def ax_.B9 : List Nat := [0, 1, 3, 0, 8, 24, 0, 64, 192, 511, 0, 2047]
theorem ax_.tab9 : rtab .any (opsOf Tryd.f29 9) = ax_.T9 := by kernel_rfl
theorem ax_.bits9 : cE_ ax_.T9.2 ax_.B9 = true := by kernel_rfl
set_option maxHeartbeats 8000000 in
set_option maxRecDepth 100000 in
theorem ax_.calls (k : Nat) (a0 : ByteArray) (r1 : ByteArray) (r2 : ByteArray) (r3 : ByteArray) (r4 : Int) (w : World) (hTab_ : Tab_ w) (h : ax_.f k a0 = some (r1, r2, r3, r4)) :
  Calls Tryd.prog 29 #[.string a0] w fun e w' => e = .returned (.tuple #[.agg #[.string r1, .string r2, .string r3], .int .i64 r4]) ∧ Below w.heap.size w w' := by
 have hu43 := Tryd.underlying43
 have HTab_ := Aside0.mk hTab_
 clear hTab_
 have HB := Aside0.mk (Below.refl w.heap.size w)
 have H : (if (a0.size : Int) < 6 then (ax_.j0 k a0 true) else (if 5 < (a0.size : Int) then (ax_.j0 k a0 ((bt a0 5) != 32)) else (none))) = some (r1, r2, r3, r4) := h
 clear h
 have HC2 := Aside0.mk H
 clear H
 go_enter Tryd.func29, Tryd.ntmps29
 go_upto_region 1 with (first | ((with_reducible refine aS_ (N := 2) rfl ?_); refine bB_ ?hg (N := 2) ?hd (cs := #[.string (⟨#[]⟩ : ByteArray), .string (⟨#[]⟩ : ByteArray), .string (⟨#[]⟩ : ByteArray)]) (t := 43) ?hr ?_; (case hd => rfl); (case hg => rfl); (case hr => (go_simp; try rfl)); intro gb101 hg w3 hbox hb; have BK101 := Aside0.mk (hbox); have GW101 := Aside0.mk ((by rw [hg]; exact (ak_ (bz HB.out)) : w.heap.size ≤ gb101)); have GE101 := GW101; replace HB := Aside0.mk (ah_ (bz HB.out) hb); clear hb hbox hg))
 (try simp only [Act.put, lsa_, ls0_, ls1_])
 go_cut [14] (fun v14 wc => ∃ (kq : Nat) (x14_1 : Bool), v14 = .bool x14_1 ∧ Aside0 (ax_.j0 kq a0 x14_1 = some (r1, r2, r3, r4)) ∧ Aside0 (kq ≤ k) ∧ Aside0 (wc.heap[gb101]? = some (.cells #[.string (⟨#[]⟩ : ByteArray), .string (⟨#[]⟩ : ByteArray), .string (⟨#[]⟩ : ByteArray)] 43 (0, 0))) ∧ Aside0 (Below w.heap.size w wc))
 case first =>
  have H := HC2.out
  clear HC2
  by_cases c4 : (a0.size : Int) < 6
  rotate_left
  ·rw [if_neg c4] at H
   have c4b0 : decide ((a0.size : Int) < 6) = false := decide_eq_false c4
   have c4b1 : decide (a0.size < 6) = false := decide_eq_false (by omega)
   clear c4
   (first | rw [c4b0] | (simp only [i64_w, i32_w]; rw [c4b0]) | (simp only [c4b1, Bool.not_true, Bool.not_false]) | (simp only [c4b0, Bool.not_true, Bool.not_false]) | skip)
   by_cases c5 : 5 < (a0.size : Int)
   rotate_left
   ·rw [if_neg c5] at H
    exact absurd H (by simp)
   rw [if_pos c5] at H
   have c5b0 : decide (5 < (a0.size : Int)) = true := decide_eq_true c5
   have c5b1 : decide (5 < a0.size) = true := decide_eq_true (by omega)
   clear c5
   have H' := Aside0.mk H
   clear H
   have p6 : 0 ≤ (5 : Int) := (by omega)
   have q6 : 5 < a0.size := (by have : (5 : Int) < (a0.size : Int) := of_decide_eq_true (by assumption); omega)
   have hx6 : ∀ h : 5 < a0.size, ((a0[5]'h).toNat : Int) = bt a0 5 := bt_at a0 5
   clear p6
   have qi6 : (5 < (a0.size : Int)) = True := eq_true (of_decide_eq_true (by assumption))
   replace q6 := eq_true q6
   go_wp2
   go_meet
   case rel => exact ⟨_, (((bt a0 5) != 32)), (by first | rfl | (simp; done) | (simp [*]; done)), H', ⟨by first | omega | exact Nat.le_refl _⟩, ⟨by (with_reducible repeat (first | refine bj_ ?_ _ | refine aX_ ?_ | refine aU_ ?_ _)); exact BK101.out⟩, ⟨bq⟩⟩
  rw [if_pos c4] at H
  have c4b0 : decide ((a0.size : Int) < 6) = true := decide_eq_true c4
  have c4b1 : decide (a0.size < 6) = true := decide_eq_true (by omega)
  clear c4
  (first | rw [c4b0] | (simp only [i64_w, i32_w]; rw [c4b0]) | (simp only [c4b1, Bool.not_true, Bool.not_false]) | (simp only [c4b0, Bool.not_true, Bool.not_false]) | skip)
  have H' := Aside0.mk H
  clear H
  go_wp2
  go_meet
  case rel => exact ⟨_, (true), (by first | rfl | (simp; done) | (simp [*]; done)), H', ⟨by first | omega | exact Nat.le_refl _⟩, ⟨by (with_reducible repeat (first | refine bj_ ?_ _ | refine aX_ ?_ | refine aU_ ?_ _)); exact BK101.out⟩, ⟨bq⟩⟩
 case rest =>
  clear HC2
  obtain ⟨kq, x14_1, rfl, HA, HJ1, BK101, HB⟩ := hcut
  cases kq with
  | zero => exact absurd HA.out (by simp [ax_.j0])
  | succ kj1 =>
   have H := HA.out
   clear HA
   simp only [ax_.j0] at H
   by_cases c7 : x14_1 = true
   rotate_left
   ·replace c7 := Bool.eq_false_iff.mpr c7
    subst c7
    have H1 : (if 6 ≤ (a0.size : Int) then ((some (a0.extract 6 a0.size : ByteArray)).bind fun y102 => (if 5 ≤ (a0.size : Int) then ((bT_.f kj1 y102).bind fun t104 => (if (a0.extract 0 5).toList = t104.toList then ((strings_SplitN.f y102 (⟨#[32]⟩ : ByteArray) 3).bind fun t105 => (if (t105.length : Int) < 3 then (some ((⟨#[]⟩ : ByteArray), (⟨#[]⟩ : ByteArray), (⟨#[]⟩ : ByteArray), 9)) else (if 0 < (t105.length : Int) then (if 1 < (t105.length : Int) then (if 2 < (t105.length : Int) then ((aT_.f kj1 (rdOf ByteArray.empty t105 0) (rdOf ByteArray.empty t105 1) (rdOf ByteArray.empty t105 2)).bind fun t112 => (if t112 = true then (some (rdOf ByteArray.empty t105 0, rdOf ByteArray.empty t105 1, rdOf ByteArray.empty t105 2, 0)) else (some ((⟨#[]⟩ : ByteArray), (⟨#[]⟩ : ByteArray), (⟨#[]⟩ : ByteArray), 9)))) else (none)) else (none)) else (none)))) else (some ((⟨#[]⟩ : ByteArray), (⟨#[]⟩ : ByteArray), (⟨#[]⟩ : ByteArray), 10)))) else (none))) else (none)) = some (r1, r2, r3, r4) := by rw [if_neg (show ¬ (false = true) by decide)] at H; exact H
    clear H
    have H := H1
    clear H1
    by_cases c9 : 6 ≤ (a0.size : Int)
    rotate_left
    ·rw [if_neg c9] at H
     exact absurd H (by simp)
    rw [if_pos c9] at H
    have c9b0 := eq_true c9
    have c9b1 : decide (6 ≤ (a0.size : Int)) = true := decide_eq_true c9
    clear c9
    obtain ⟨y102, hy102⟩ : ∃ y_ : ByteArray, y_ = (a0.extract 6 a0.size) := ⟨_, rfl⟩
    replace H : (if 5 ≤ (a0.size : Int) then ((bT_.f kj1 y102).bind fun t104 => (if (a0.extract 0 5).toList = t104.toList then ((strings_SplitN.f y102 (⟨#[32]⟩ : ByteArray) 3).bind fun t105 => (if (t105.length : Int) < 3 then (some ((⟨#[]⟩ : ByteArray), (⟨#[]⟩ : ByteArray), (⟨#[]⟩ : ByteArray), 9)) else (if 0 < (t105.length : Int) then (if 1 < (t105.length : Int) then (if 2 < (t105.length : Int) then ((aT_.f kj1 (rdOf ByteArray.empty t105 0) (rdOf ByteArray.empty t105 1) (rdOf ByteArray.empty t105 2)).bind fun t112 => (if t112 = true then (some (rdOf ByteArray.empty t105 0, rdOf ByteArray.empty t105 1, rdOf ByteArray.empty t105 2, 0)) else (some ((⟨#[]⟩ : ByteArray), (⟨#[]⟩ : ByteArray), (⟨#[]⟩ : ByteArray), 9)))) else (none)) else (none)) else (none)))) else (some ((⟨#[]⟩ : ByteArray), (⟨#[]⟩ : ByteArray), (⟨#[]⟩ : ByteArray), 10)))) else (none)) = some (r1, r2, r3, r4) := by first | (rw [hy102]; with_reducible exact H) | (have H2_ := (Option.bind_some _ _).symm.trans H; rw [hy102]; with_reducible exact H2_) | (have H2_ := (Option.bind_some _ _).symm.trans H; with_reducible exact H2_) | with_reducible exact H | (rw [hy102]; exact H) | exact H
    have Ny102 := Aside0.mk hy102
    clear hy102
    have Sy102 := Ny102.out.symm
    by_cases c10 : 5 ≤ (a0.size : Int)
    rotate_left
    ·rw [if_neg c10] at H
     exact absurd H (by simp)
    rw [if_pos c10] at H
    have c10b0 := eq_true c10
    have c10b1 : decide (5 ≤ (a0.size : Int)) = true := decide_eq_true c10
    clear c10
    obtain ⟨y103, hy103⟩ : ∃ y_ : ByteArray, y_ = (a0.extract 0 5) := ⟨_, rfl⟩
    replace H : ((bT_.f kj1 y102).bind fun t104 => (if y103.toList = t104.toList then ((strings_SplitN.f y102 (⟨#[32]⟩ : ByteArray) 3).bind fun t105 => (if (t105.length : Int) < 3 then (some ((⟨#[]⟩ : ByteArray), (⟨#[]⟩ : ByteArray), (⟨#[]⟩ : ByteArray), 9)) else (if 0 < (t105.length : Int) then (if 1 < (t105.length : Int) then (if 2 < (t105.length : Int) then ((aT_.f kj1 (rdOf ByteArray.empty t105 0) (rdOf ByteArray.empty t105 1) (rdOf ByteArray.empty t105 2)).bind fun t112 => (if t112 = true then (some (rdOf ByteArray.empty t105 0, rdOf ByteArray.empty t105 1, rdOf ByteArray.empty t105 2, 0)) else (some ((⟨#[]⟩ : ByteArray), (⟨#[]⟩ : ByteArray), (⟨#[]⟩ : ByteArray), 9)))) else (none)) else (none)) else (none)))) else (some ((⟨#[]⟩ : ByteArray), (⟨#[]⟩ : ByteArray), (⟨#[]⟩ : ByteArray), 10)))) = some (r1, r2, r3, r4) := by first | (rw [hy103]; with_reducible exact H) | (have H2_ := (Option.bind_some _ _).symm.trans H; rw [hy103]; with_reducible exact H2_) | (have H2_ := (Option.bind_some _ _).symm.trans H; with_reducible exact H2_) | with_reducible exact H | (rw [hy103]; exact H) | exact H
    have Ny103 := Aside0.mk hy103
    clear hy103
    have Sy103 := Ny103.out.symm
    replace H := Option.bind_eq_some_iff.mp H
    obtain ⟨t104, A110, H⟩ := H
    (try dsimp only at H)
    have A11 := Aside0.mk A110
    clear A110
    have HC12 := Aside0.mk H
    clear H
    try go_wp2
    have n0_ := Aside0.mk (aX_ BK101.out)
    have n1_ := Aside0.mk (bD_ HB.out)
    clear BK101
    clear HB
    have BK101 := n0_
    have HB := n1_
    clear n0_ n1_
    refine cW_ (n := 5) (S := fun w' => True) (ds := []) #[f_,f_,f_,f_,f_] (by kernel_rfl) rfl rfl trivial (fun hHeld => ?_)
    generalize wc.drew = w13 at BK101 HB hHeld ⊢
    refine pure_ (i := 0) (N := some 18) (v := ?_) (a' := ?_) #[t_,f_,f_,f_,f_] rfl rfl (by kernel_rfl) (fun _ _ _ h => h) (Or.inl ⟨by rfl, ?_⟩) ?_ ?_
    rotate_left
    ·intro w'
     go_simp
     with_reducible rfl
    rotate_left
    ·simp only [Act.put, lsa_, ls0_, ls1_, i64_w, i32_w]
     rfl
    refine pure_ (i := 1) (N := some 19) (v := ?_) (a' := ?_) #[t_,t_,f_,f_,f_] rfl rfl (by kernel_rfl) (fun _ _ _ h => h) (Or.inl ⟨by rfl, ?_⟩) ?_ ?_
    rotate_left
    ·intro w'
     go_simp
     with_reducible rfl
    rotate_left
    ·simp only [Act.put, lsa_, ls0_, ls1_, i64_w, i32_w]
     rfl
    refine pure_ (i := 2) (N := some 20) (v := ?_) (a' := ?_) #[t_,t_,t_,f_,f_] rfl rfl (by kernel_rfl) (fun _ _ _ h => h) (Or.inl ⟨by rfl, ?_⟩) ?_ ?_
    rotate_left
    ·intro w'
     go_simp
     with_reducible rfl
    rotate_left
    ·simp only [Act.put, lsa_, ls0_, ls1_, i64_w, i32_w]
     rfl
    refine one_ (i := 3) (N := some 21) #[t_,t_,t_,t_,f_] rfl rfl (by kernel_rfl) (by decide) (fun K hK => ?_)
    (first | refine goes_ Tryd.func51 (by kernel_rfl) rfl #[.string y102] (by rfl) rfl rfl (by first | rfl | (simp only [lma_, lmc_, lmn_]; first | done | rfl)) ?_ | refine RPW.cj_ Tryd.func51 (by kernel_rfl) rfl #[.string y102] (by rfl) rfl rfl rfl (by first | rfl | (simp only [lma_, lmc_, lmn_]; first | done | rfl)) ?_ | refine RPW.ci_ Tryd.func51 (by kernel_rfl) rfl #[.string y102] (by rfl) rfl rfl rfl (by first | rfl | (simp only [lma_, lmc_, lmn_]; first | done | rfl)) ?_)
    with_reducible refine (bT_.calls kj1 y102 t104 _ ?side1 A11.out).mono ?_
    (case side1 => exact cN_ HTab_.out (bq))
    rintro e w14 ⟨rfl, hb⟩
    refine ⟨_, rfl, ?_⟩
    have n0_ := Aside0.mk (az_ (kz BK101.out) hb)
    have n1_ := Aside0.mk (ah_ (bq) hb)
    clear BK101
    clear HB
    have BK101 := n0_
    have HB := n1_
    clear n0_ n1_
    (try clear hb)
    refine hK.out _ _ trivial (fun hHeld => ?_)
    clear hK K
    refine norm_ (a' := ?_) ?_ ?_
    rotate_left
    ·show Act.put _ (some 21) _ = _
     simp only [Act.put, lsa_, ls0_, ls1_, i64_w, i32_w]
     rfl
    refine pure_ (i := 4) (N := some 22) (v := ?_) (a' := ?_) #[t_,t_,t_,t_,t_] rfl rfl (by kernel_rfl) (fun _ _ _ h => h) (Or.inl ⟨by rfl, ?_⟩) ?_ ?_
    rotate_left
    ·intro w'
     go_simp
     with_reducible rfl
    rotate_left
    ·simp only [Act.put, lsa_, ls0_, ls1_, i64_w, i32_w]
     rfl
    refine done_ (by kernel_rfl) ?_
    go_upto_if 22 with (fail)
    have H := HC12.out
    clear HC12
    by_cases c15 : y103.toList = t104.toList
    rotate_left
    ·rw [if_neg c15] at H
     have c15b0 : (y103.toList == t104.toList) = false := beq_eq_false_iff_ne.mpr c15
     have c15b1 : (y103.toList != t104.toList) = true := bne_iff_ne.mpr c15
     (first | rw [c15b0] | (simp only [i64_w, i32_w]; rw [c15b0]) | (simp only [c15b1, Bool.not_true, Bool.not_false]) | (simp only [c15b0, Bool.not_true, Bool.not_false]) | skip)
     simp only [Option.some.injEq, Prod.mk.injEq] at H
     obtain ⟨rfl, rfl, rfl, rfl⟩ := H
     obtain ⟨hcz41_0, hcz41_1, hcz41_2⟩ := cz3_ BK101.out
     obtain ⟨hfz41_0, hfz41_1, hfz41_2⟩ := fz3_ BK101.out
     go_wp2
     refine bodyPost_ret (cy_ rfl _ _ gb101 43 #[.string (⟨#[]⟩ : ByteArray), .string (⟨#[]⟩ : ByteArray), .string (⟨#[]⟩ : ByteArray)] (0, 0) _ rfl (by exact kj3_2 (kj3_1 (kj3_0 (kz BK101.out)))) Tryd.underlying43 rfl (by kernel_rfl)) rfl ?_
     exact ⟨by first | rfl | (simp [*, aw_, av_] <;> rfl), bq⟩
    rw [if_pos c15] at H
    have c15b0 : (y103.toList == t104.toList) = true := beq_iff_eq.mpr c15
    have c15b1 : (y103.toList != t104.toList) = false := bne_eq_false_iff_eq.mpr c15
    clear c15
    (first | rw [c15b0] | (simp only [i64_w, i32_w]; rw [c15b0]) | (simp only [c15b1, Bool.not_true, Bool.not_false]) | (simp only [c15b0, Bool.not_true, Bool.not_false]) | skip)
    replace H := Option.bind_eq_some_iff.mp H
    obtain ⟨t105, A160, H⟩ := H
    (try dsimp only at H)
    have A16 := Aside0.mk A160
    clear A160
    have HC17 := Aside0.mk H
    clear H
    go_upto_if 28 with (first | ((with_reducible refine al_ (f := 52) rfl ?_); refine bf_ (some 25) rfl rfl Tryd.func52 (by kernel_rfl) rfl #[.string y102, .string (⟨#[32]⟩ : ByteArray), .int .i64 3] rfl (by first | rfl | (simp only [lma_, lmc_, lmn_]; first | done | rfl)) ?_; (with_reducible refine (strings_SplitN.calls y102 (⟨#[32]⟩ : ByteArray) 3 t105 _ ?side1 A16.out).mono ?_); (case side1 => exact cN_ HTab_.out (bq)); rintro e w18 ⟨v106, rfl, ho0, hb⟩; refine ⟨_, rfl, ?_⟩; have HO107 := Aside0.mk (Kd.bw_ ho0 (ak_ (bq))); replace BK101 := Aside0.mk (az_ (kz BK101.out) hb); replace HB := Aside0.mk (ah_ (bq) hb); (try clear hb); (try clear ho0); obtain ⟨Ao19, co19, eo19⟩ := Kd.bL_ HO107.out; subst eo19))
    (try simp only [Act.put, lsa_, ls0_, ls1_])
    have H := HC17.out
    clear HC17
    by_cases c20 : (t105.length : Int) < 3
    rotate_left
    ·rw [if_neg c20] at H
     have c20b0 : decide ((t105.length : Int) < 3) = false := decide_eq_false c20
     have c20b1 : decide (t105.length < 3) = false := decide_eq_false (by omega)
     clear c20
     (first | rw [c20b0] | (simp only [i64_w, i32_w]; rw [c20b0]) | (simp only [c20b1, Bool.not_true, Bool.not_false]) | (simp only [c20b0, Bool.not_true, Bool.not_false]) | skip)
     by_cases c22 : 0 < (t105.length : Int)
     rotate_left
     ·rw [if_neg c22] at H
      exact absurd H (by simp)
     rw [if_pos c22] at H
     have c22b0 : decide (0 < (t105.length : Int)) = true := decide_eq_true c22
     have c22b1 : decide (0 < t105.length) = true := decide_eq_true (by omega)
     clear c22
     by_cases c23 : 1 < (t105.length : Int)
     rotate_left
     ·rw [if_neg c23] at H
      exact absurd H (by simp)
     rw [if_pos c23] at H
     have c23b0 : decide (1 < (t105.length : Int)) = true := decide_eq_true c23
     have c23b1 : decide (1 < t105.length) = true := decide_eq_true (by omega)
     clear c23
     by_cases c24 : 2 < (t105.length : Int)
     rotate_left
     ·rw [if_neg c24] at H
      exact absurd H (by simp)
     rw [if_pos c24] at H
     have c24b0 : decide (2 < (t105.length : Int)) = true := decide_eq_true c24
     have c24b1 : decide (2 < t105.length) = true := decide_eq_true (by omega)
     clear c24
     replace H := Option.bind_eq_some_iff.mp H
     obtain ⟨t112, A250, H⟩ := H
     (try dsimp only at H)
     have A25 := Aside0.mk A250
     clear A250
     have HC26 := Aside0.mk H
     clear H
     try go_wp2
     (try (rw [cS_ w18]; generalize hq_ : World.drewN w18 _ = w18; have n0_ : Aside0 (Kd.R Kd.string 9 w18 w.heap.size (fun k_ => True) (.slice Ao19 t105.length co19) t105) := ⟨by rw [← hq_]; exact (rz HO107.out)⟩; have n1_ : Aside0 (w18.heap[gb101]? = some (.cells #[.string (⟨#[]⟩ : ByteArray), .string (⟨#[]⟩ : ByteArray), .string (⟨#[]⟩ : ByteArray)] 43 (0, 0))) := ⟨by rw [← hq_]; exact (kz BK101.out)⟩; have n2_ : Aside0 (Below w.heap.size w w18) := ⟨by rw [← hq_]; exact (bq)⟩; clear HO107 BK101 HB hq_; have HO107 := n0_; have BK101 := n1_; have HB := n2_; clear n0_ n1_ n2_))
     have n0_ := Aside0.mk (Kd.dd_ HO107.out)
     have n1_ := Aside0.mk (aX_ BK101.out)
     have n2_ := Aside0.mk (bD_ HB.out)
     clear HO107
     clear BK101
     clear HB
     have HO107 := n0_
     have BK101 := n1_
     have HB := n2_
     clear n0_ n1_ n2_
     have p108 : 0 ≤ (0 : Int) := (by omega)
     have q108 : 0 < (t105.length : Int) := of_decide_eq_true (by assumption)
     obtain ⟨ad108, e108, hx108_0⟩ := Kd.cc_ (Kd.aE_ HO107.out).2.2 0 p108 q108
     cases e108
     have qi108 : (0 < t105.length) = True := eq_true (by omega)
     (try rw [show ((0 : Int)).toNat = 0 from rfl] at hx108_0)
     (try rw [Addr.add_zero'] at hx108_0)
     replace p108 := eq_true p108
     replace q108 := eq_true q108
     have p109 : 0 ≤ (1 : Int) := (by omega)
     have q109 : 1 < (t105.length : Int) := of_decide_eq_true (by assumption)
     obtain ⟨ad109, e109, hx109_0⟩ := Kd.cc_ (Kd.aE_ HO107.out).2.2 1 p109 q109
     obtain rfl : ad108 = ad109 := (by injection e109)
     (try simp only [show (1 : Int).toNat = 1 from rfl, Nat.reduceMul, Nat.reduceEqDiff, Go.Addr.add, ↓reduceIte] at hx109_0)
     have qi109 : (1 < t105.length) = True := eq_true (by omega)
     (try rw [show ((1 : Int)).toNat = 1 from rfl] at hx109_0)
     replace p109 := eq_true p109
     replace q109 := eq_true q109
     have p110 : 0 ≤ (2 : Int) := (by omega)
     have q110 : 2 < (t105.length : Int) := of_decide_eq_true (by assumption)
     obtain ⟨ad110, e110, hx110_0⟩ := Kd.cc_ (Kd.aE_ HO107.out).2.2 2 p110 q110
     obtain rfl : ad108 = ad110 := (by injection e110)
     (try simp only [show (2 : Int).toNat = 2 from rfl, Nat.reduceMul, Nat.reduceEqDiff, Go.Addr.add, ↓reduceIte] at hx110_0)
     have qi110 : (2 < t105.length) = True := eq_true (by omega)
     (try rw [show ((2 : Int)).toNat = 2 from rfl] at hx110_0)
     replace p110 := eq_true p110
     replace q110 := eq_true q110
     refine cW_ (n := 12) (S := fun w' => w'.cell? ad108 = some (.string (rdOf ByteArray.empty t105 0)) ∧ w'.cell? ⟨ad108.block, ad108.off + 1, none⟩ = some (.string (rdOf ByteArray.empty t105 1)) ∧ w'.cell? ⟨ad108.block, ad108.off + 2, none⟩ = some (.string (rdOf ByteArray.empty t105 2))) (ds := []) #[f_,f_,f_,f_,f_,f_,f_,f_,f_,f_,f_,f_] (by kernel_rfl) rfl rfl ⟨hx108_0, hx109_0, hx110_0⟩ (fun hHeld => ?_); refine ce_ ax_.tab9 ax_.bits9 (fun HT_ HW_ => ?_)
     generalize w18.drew = w27 at HO107 BK101 HB hx108_0 hx109_0 hx110_0 hHeld ⊢
     refine pu 0 30 #[t_,f_,f_,f_,f_,f_,f_,f_,f_,f_,f_,f_] HT_ ?_
     refine pu 1 31 #[t_,t_,f_,f_,f_,f_,f_,f_,f_,f_,f_,f_] HT_ ?_
     refine pu 3 33 #[t_,t_,f_,t_,f_,f_,f_,f_,f_,f_,f_,f_] HT_ ?_
     refine pu 4 34 #[t_,t_,f_,t_,t_,f_,f_,f_,f_,f_,f_,f_] HT_ ?_
     refine pu 6 36 #[t_,t_,f_,t_,t_,f_,t_,f_,f_,f_,f_,f_] HT_ ?_
     refine pu 7 37 #[t_,t_,f_,t_,t_,f_,t_,t_,f_,f_,f_,f_] HT_ ?_
     refine tk 2 32 #[t_,t_,t_,t_,t_,f_,t_,t_,f_,f_,f_,f_] HT_ HW_ hHeld ?_ (hv := by rintro w' ⟨s0, s1, s2⟩; go_simp; with_reducible rfl)
     refine tk 5 35 #[t_,t_,t_,t_,t_,t_,t_,t_,f_,f_,f_,f_] HT_ HW_ hHeld ?_ (hv := by rintro w' ⟨s0, s1, s2⟩; go_simp; with_reducible rfl)
     refine tk 8 38 #[t_,t_,t_,t_,t_,t_,t_,t_,t_,f_,f_,f_] HT_ HW_ hHeld ?_ (hv := by rintro w' ⟨s0, s1, s2⟩; go_simp; with_reducible rfl)
     refine pu 9 39 #[t_,t_,t_,t_,t_,t_,t_,t_,t_,t_,f_,f_] HT_ ?_
     refine one_ (i := 10) (N := some 6) #[t_,t_,t_,t_,t_,t_,t_,t_,t_,t_,t_,f_] rfl rfl (bZ_ HT_.out (by kernel_rfl)) (by decide) (fun K hK => ?_)
     refine de_ ?hg (N := 6) ?hd (cs := #[.string (⟨#[]⟩ : ByteArray), .string (⟨#[]⟩ : ByteArray), .string (⟨#[]⟩ : ByteArray)]) (t := 43) ?hr ?_; (case hd => rfl); (case hg => rfl); (case hr => (go_simp; try rfl))
     intro gb111 hg w28 hbox hb
     have HS0_ := (hb.cell (bl_ _ _ (hHeld.1))).trans (hHeld.1)
     have HS1_ := (hb.cell (bl_ _ _ (hHeld.2.1))).trans (hHeld.2.1)
     have HS2_ := (hb.cell (bl_ _ _ (hHeld.2.2))).trans (hHeld.2.2)
     have n0_ := Aside0.mk (Kd.bI_ (rz HO107.out) hb)
     have n1_ := Aside0.mk (az_ (kz BK101.out) hb)
     have n2_ := Aside0.mk (ah_ (bq) hb)
     have n3_ := Aside0.mk (hbox)
     have n4_ := Aside0.mk ((by rw [hg]; exact (ak_ (bq)) : w.heap.size ≤ gb111))
     have n5_ := Aside0.mk ((by rw [hg]; exact (ak_ (bq)) : w.heap.size ≤ gb111))
     have n6_ := Aside0.mk ((by rw [hg]; exact Nat.ne_of_lt (bX_ (kz BK101.out)) : gb101 ≠ gb111))
     have n7_ := Aside0.mk ((by rw [hg]; exact Nat.ne_of_gt (bX_ (kz BK101.out)) : gb111 ≠ gb101))
     clear HO107
     clear BK101
     clear HB
     have HO107 := n0_
     have BK101 := n1_
     have HB := n2_
     have BK111 := n3_
     have GW111 := n4_
     have GE111 := n5_
     have NB101_111 := n6_
     have NB111_101 := n7_
     clear n0_ n1_ n2_ n3_ n4_ n5_ n6_ n7_
     clear hb hbox hg
     refine hK.out _ _ ⟨HS0_, HS1_, HS2_⟩ (fun hHeld => ?_)
     clear hK K
     refine norm_ (a' := ?_) ?_ ?_
     rotate_left
     ·show Act.put _ (some 6) _ = _
      simp only [Act.put, lsa_, ls0_, ls1_, i64_w, i32_w]
      rfl
     refine one_ (i := 11) (N := none) #[t_,t_,t_,t_,t_,t_,t_,t_,t_,t_,t_,t_] rfl rfl (bZ_ HT_.out (by kernel_rfl)) (by decide) (fun K hK => ?_)
     have hs29 : w28.cell? ⟨gb111, 0, none⟩ = some (.string (⟨#[]⟩ : ByteArray)) := (ar_ BK111.out 0).trans rfl
     have hfs29 := ba_ BK111.out 0
     have hns29_0 := NB101_111.out
     have hms29_0 := NB111_101.out
     have hs30 : w28.cell? ⟨gb111, 1, none⟩ = some (.string (⟨#[]⟩ : ByteArray)) := (ar_ BK111.out 1).trans rfl
     have hfs30 := ba_ BK111.out 1
     have hns30_0 := NB101_111.out
     have hms30_0 := NB111_101.out
     have hs31 : w28.cell? ⟨gb111, 2, none⟩ = some (.string (⟨#[]⟩ : ByteArray)) := (ar_ BK111.out 2).trans rfl
     have hfs31 := ba_ BK111.out 2
     have hns31_0 := NB101_111.out
     have hms31_0 := NB111_101.out
     refine skip_ (w1 := ?_) (by rfl) rfl ?_ ?_
     rotate_left
     ·go_simp
      rfl
     refine hK.out _ _ ⟨(cf ((cf ((cf (hHeld.1) (by first | exact Kd.ck_ (Kd.R_ne HO107.out BK111.out (by decide)) | (dsimp only; exact Kd.ck_ (Kd.R_ne HO107.out BK111.out (by decide)))))) (by first | exact Kd.ck_ (Kd.R_ne HO107.out BK111.out (by decide)) | (dsimp only; exact Kd.ck_ (Kd.R_ne HO107.out BK111.out (by decide)))))) (by first | exact Kd.ck_ (Kd.R_ne HO107.out BK111.out (by decide)) | (dsimp only; exact Kd.ck_ (Kd.R_ne HO107.out BK111.out (by decide))))), (cf ((cf ((cf (hHeld.2.1) (by first | exact Kd.ck_ (Kd.R_ne HO107.out BK111.out (by decide)) | (dsimp only; exact Kd.ck_ (Kd.R_ne HO107.out BK111.out (by decide)))))) (by first | exact Kd.ck_ (Kd.R_ne HO107.out BK111.out (by decide)) | (dsimp only; exact Kd.ck_ (Kd.R_ne HO107.out BK111.out (by decide)))))) (by first | exact Kd.ck_ (Kd.R_ne HO107.out BK111.out (by decide)) | (dsimp only; exact Kd.ck_ (Kd.R_ne HO107.out BK111.out (by decide))))), (cf ((cf ((cf (hHeld.2.2) (by first | exact Kd.ck_ (Kd.R_ne HO107.out BK111.out (by decide)) | (dsimp only; exact Kd.ck_ (Kd.R_ne HO107.out BK111.out (by decide)))))) (by first | exact Kd.ck_ (Kd.R_ne HO107.out BK111.out (by decide)) | (dsimp only; exact Kd.ck_ (Kd.R_ne HO107.out BK111.out (by decide)))))) (by first | exact Kd.ck_ (Kd.R_ne HO107.out BK111.out (by decide)) | (dsimp only; exact Kd.ck_ (Kd.R_ne HO107.out BK111.out (by decide)))))⟩ (fun hHeld => ?_)
     clear hK K
     refine done_ (cO_ HT_.out (by kernel_rfl)) ?_
     have hnb32 := NB111_101.out
     have hnc32 := NB101_111.out
     obtain ⟨hcz33_0, hcz33_1, hcz33_2⟩ := cz3_ BK111.out
     obtain ⟨hfz33_0, hfz33_1, hfz33_2⟩ := fz3_ BK111.out
     go_upto_if 42 with (first | ((with_reducible refine al_ (f := 53) rfl ?_); refine bf_ (some 41) rfl rfl Tryd.func53 (by kernel_rfl) rfl #[.agg #[.string (rdOf ByteArray.empty t105 0), .string (rdOf ByteArray.empty t105 1), .string (rdOf ByteArray.empty t105 2)]] rfl (by first | rfl | (simp only [lma_, lmc_, lmn_]; first | done | rfl)) ?_; (with_reducible refine (aT_.calls kj1 (rdOf ByteArray.empty t105 0) (rdOf ByteArray.empty t105 1) (rdOf ByteArray.empty t105 2) t112 _ A25.out).mono ?_); rintro e w34 ⟨rfl, hb⟩; refine ⟨_, rfl, ?_⟩; replace HO107 := Aside0.mk (Kd.bI_ (rz (Kd.aG_ (Kd.R_far (p := ⟨gb111, 2, none⟩) (Kd.R_far (p := ⟨gb111, 1, none⟩) (Kd.R_far (p := ⟨gb111, 0, none⟩) (Kd.bY_ HO107.out BK111.out (by decide)) (fun _ hk => hk.2) (.string (rdOf ByteArray.empty t105 0))) (fun _ hk => hk.2) (.string (rdOf ByteArray.empty t105 1))) (fun _ hk => hk.2) (.string (rdOf ByteArray.empty t105 2))) (fun _ h_ => h_.1))) hb); replace BK101 := Aside0.mk (az_ (g := gb101) (o := .cells #[.string (⟨#[]⟩ : ByteArray), .string (⟨#[]⟩ : ByteArray), .string (⟨#[]⟩ : ByteArray)] 43 (0, 0)) (by exact kf (kf (kf (kz BK101.out) NB101_111.out) NB101_111.out) NB101_111.out) hb); replace BK111 := Aside0.mk (az_ (g := gb111) (o := .cells #[.string (rdOf ByteArray.empty t105 0), .string (rdOf ByteArray.empty t105 1), .string (rdOf ByteArray.empty t105 2)] 43 (0, 0)) (by exact kj3_2 (kj3_1 (kj3_0 (kz BK111.out)))) hb); replace HB := Aside0.mk (ah_ (bq) hb); (try clear hb)))
     (try simp only [Act.put, lsa_, ls0_, ls1_])
     have H := HC26.out
     clear HC26
     by_cases c35 : t112 = true
     rotate_left
     ·replace c35 := Bool.eq_false_iff.mpr c35
      subst c35
      have H1 : (some ((⟨#[]⟩ : ByteArray), (⟨#[]⟩ : ByteArray), (⟨#[]⟩ : ByteArray), 9)) = some (r1, r2, r3, r4) := by rw [if_neg (show ¬ (false = true) by decide)] at H; exact H
      clear H
      have H := H1
      clear H1
      simp only [Option.some.injEq, Prod.mk.injEq] at H
      obtain ⟨rfl, rfl, rfl, rfl⟩ := H
      have hnb39 := NB101_111.out
      have hnc39 := NB111_101.out
      obtain ⟨hcz40_0, hcz40_1, hcz40_2⟩ := cz3_ BK101.out
      obtain ⟨hfz40_0, hfz40_1, hfz40_2⟩ := fz3_ BK101.out
      go_wp2
      refine bodyPost_ret (cy_ rfl _ _ gb101 43 #[.string (⟨#[]⟩ : ByteArray), .string (⟨#[]⟩ : ByteArray), .string (⟨#[]⟩ : ByteArray)] (0, 0) _ rfl (by exact kj3_2 (kj3_1 (kj3_0 (kz BK101.out)))) Tryd.underlying43 rfl (by kernel_rfl)) rfl ?_
      exact ⟨by first | rfl | (simp [*, aw_, av_] <;> rfl), bq⟩
     subst c35
     have H1 : (some (rdOf ByteArray.empty t105 0, rdOf ByteArray.empty t105 1, rdOf ByteArray.empty t105 2, 0)) = some (r1, r2, r3, r4) := by rw [if_pos rfl] at H; exact H
     clear H
     have H := H1
     clear H1
     simp only [Option.some.injEq, Prod.mk.injEq] at H
     obtain ⟨rfl, rfl, rfl, rfl⟩ := H
     have hnb36 := NB111_101.out
     have hnc36 := NB101_111.out
     obtain ⟨hcz37_0, hcz37_1, hcz37_2⟩ := cz3_ BK111.out
     obtain ⟨hfz37_0, hfz37_1, hfz37_2⟩ := fz3_ BK111.out
     obtain ⟨hcz38_0, hcz38_1, hcz38_2⟩ := cz3_ BK101.out
     obtain ⟨hfz38_0, hfz38_1, hfz38_2⟩ := fz3_ BK101.out
     go_wp2
     refine bodyPost_ret (cy_ rfl _ _ gb101 43 #[.string (rdOf ByteArray.empty t105 0), .string (rdOf ByteArray.empty t105 1), .string (rdOf ByteArray.empty t105 2)] (0, 0) _ rfl (by exact kj3_2 (kj3_1 (kj3_0 (kz BK101.out)))) Tryd.underlying43 rfl (by kernel_rfl)) rfl ?_
     exact ⟨by first | rfl | (simp [*, aw_, av_] <;> rfl), bq⟩
    rw [if_pos c20] at H
    have c20b0 : decide ((t105.length : Int) < 3) = true := decide_eq_true c20
    have c20b1 : decide (t105.length < 3) = true := decide_eq_true (by omega)
    clear c20
    (first | rw [c20b0] | (simp only [i64_w, i32_w]; rw [c20b0]) | (simp only [c20b1, Bool.not_true, Bool.not_false]) | (simp only [c20b0, Bool.not_true, Bool.not_false]) | skip)
    simp only [Option.some.injEq, Prod.mk.injEq] at H
    obtain ⟨rfl, rfl, rfl, rfl⟩ := H
    obtain ⟨hcz21_0, hcz21_1, hcz21_2⟩ := cz3_ BK101.out
    obtain ⟨hfz21_0, hfz21_1, hfz21_2⟩ := fz3_ BK101.out
    go_wp2
    refine bodyPost_ret (cy_ rfl _ _ gb101 43 #[.string (⟨#[]⟩ : ByteArray), .string (⟨#[]⟩ : ByteArray), .string (⟨#[]⟩ : ByteArray)] (0, 0) _ rfl (by exact kj3_2 (kj3_1 (kj3_0 (kz BK101.out)))) Tryd.underlying43 rfl (by kernel_rfl)) rfl ?_
    exact ⟨by first | rfl | (simp [*, aw_, av_] <;> rfl), bq⟩
   subst c7
   have H1 : (some ((⟨#[]⟩ : ByteArray), (⟨#[]⟩ : ByteArray), (⟨#[]⟩ : ByteArray), 9)) = some (r1, r2, r3, r4) := by rw [if_pos rfl] at H; exact H
   clear H
   have H := H1
   clear H1
   simp only [Option.some.injEq, Prod.mk.injEq] at H
   obtain ⟨rfl, rfl, rfl, rfl⟩ := H
   obtain ⟨hcz8_0, hcz8_1, hcz8_2⟩ := cz3_ BK101.out
   obtain ⟨hfz8_0, hfz8_1, hfz8_2⟩ := fz3_ BK101.out
   go_wp2
   refine bodyPost_ret (cy_ rfl _ _ gb101 43 #[.string (⟨#[]⟩ : ByteArray), .string (⟨#[]⟩ : ByteArray), .string (⟨#[]⟩ : ByteArray)] (0, 0) _ rfl (by exact kj3_2 (kj3_1 (kj3_0 (kz BK101.out)))) Tryd.underlying43 rfl (by kernel_rfl)) rfl ?_
   exact ⟨by first | rfl | (simp [*, aw_, av_] <;> rfl), bq⟩
def aV_.l0 : Nat → List ByteArray → Int → List Int → Int → Option (List Int)
 | 0, _, _, _, _ => none
 | k + 1, x3, x4, x5, x6 => if x6 < x4 then (if 0 ≤ x6 then (if x6 < (x3.length : Int) then ((ax_.f k (rdOf ByteArray.empty x3 x6)).bind fun bt108 => (if bt108.2.2.2 = 0 then (aV_.l0 k x3 x4 x5 (wrap64 (x6 + 1))) else (if x5.length < 17592186044416 then (aV_.l0 k x3 x4 (x5 ++ [wrap64 (x6 + 1)]) (wrap64 (x6 + 1))) else (none)))) else (none)) else (none)) else (if 0 ≤ x4 then (if x4 < (x3.length : Int) then (if (rdOf ByteArray.empty x3 x4).toList = ([] : List UInt8) then (some x5) else (if x5.length < 17592186044416 then (some (x5 ++ [wrap64 (x4 + 1)])) else (none))) else (none)) else (none))
def aV_.f (k : Nat) (a0 : ByteArray) : Option (List Int) := (strings_Split.f a0 (⟨#[10]⟩ : ByteArray)).bind fun t101 => (aV_.l0 k t101 (wrap64 ((t101.length : Int) - 1)) (([] : List Int)) 1)
set_option maxHeartbeats 8000000 in
set_option maxRecDepth 100000 in
theorem aV_.calls (k : Nat) (a0 : ByteArray) (r : List Int) (w : World) (hTab_ : Tab_ w) (h : aV_.f k a0 = some r) :
  Calls Tryd.prog 8 #[.string a0] w fun e w' => ∃ v0_ : Value, e = .returned (v0_) ∧ Kd.R (Kd.int .i64) 2 w' w.heap.size (fun _ => True) v0_ r ∧ Below w.heap.size w w' := by
 have hu43 := Tryd.underlying43
 have HTab_ := Aside0.mk hTab_
 clear hTab_
 have HB := Aside0.mk (Below.refl w.heap.size w)
 have H : ((strings_Split.f a0 (⟨#[10]⟩ : ByteArray)).bind fun t101 => (aV_.l0 k t101 (wrap64 ((t101.length : Int) - 1)) (([] : List Int)) 1)) = some r := h
 clear h
 replace H := Option.bind_eq_some_iff.mp H
 obtain ⟨t101, A20, H⟩ := H
 (try dsimp only at H)
 have A2 := Aside0.mk A20
 clear A20
 obtain ⟨y104, hy104⟩ : ∃ y_ : List Int, y_ = (([] : List Int)) := ⟨_, rfl⟩
 replace H : (aV_.l0 k t101 (wrap64 ((t101.length : Int) - 1)) y104 1) = some r := by first | (rw [hy104]; with_reducible exact H) | (have H2_ := (Option.bind_some _ _).symm.trans H; rw [hy104]; with_reducible exact H2_) | (have H2_ := (Option.bind_some _ _).symm.trans H; with_reducible exact H2_) | with_reducible exact H | (rw [hy104]; exact H) | exact H
 have Ny104 := Aside0.mk hy104
 clear hy104
 have H' := Aside0.mk H
 clear H
 go_enter Tryd.func8, Tryd.ntmps8
 go_wp2_with (first | ((with_reducible refine al_ (f := 28) rfl ?_); refine bf_ (some 10) rfl rfl Tryd.func28 (by kernel_rfl) rfl #[.string a0, .string (⟨#[10]⟩ : ByteArray)] rfl (by first | rfl | (simp only [lma_, lmc_, lmn_]; first | done | rfl)) ?_; (with_reducible refine (strings_Split.calls a0 (⟨#[10]⟩ : ByteArray) t101 _ ?side1 A2.out).mono ?_); (case side1 => exact cN_ HTab_.out (bz HB.out)); rintro e w3 ⟨v102, rfl, ho0, hb⟩; refine ⟨_, rfl, ?_⟩; have HO103 := Aside0.mk (Kd.bw_ ho0 (ak_ (bz HB.out))); replace HB := Aside0.mk (ah_ (bz HB.out) hb); (try clear hb); (try clear ho0); obtain ⟨Ao4, co4, eo4⟩ := Kd.bL_ HO103.out; subst eo4) | ((with_reducible refine aS_ (N := 14) rfl ?_); refine Kd.R_lit (Kd.int .i64) _ 2 ?hg (N := 14) ?hd (xs := ([] : List Int)) (inner := []) (ok := fun _ => True) (okp := fun _ => True) ?hr ?hp (fun _ hk => hk) trivial (Below.refl _ _) (Nat.le_refl _) (by simp) ?_; (case hd => rfl); (case hg => rfl); (case hr => (go_simp; try rfl)); (case hp => exact (Reps.none _ _)); intro v105 w5 ho6 hb hg_ hnew_; clear hg_ hnew_; (first | rw [← Ny104.out] at ho6 | (simp only [Int.reduceToNat] at ho6; rw [← Ny104.out] at ho6)); replace HO103 := Aside0.mk (Kd.bI_ (rz HO103.out) hb); have HO106 := Aside0.mk (Kd.bw_ ho6 (ak_ (bz HB.out))); replace HB := Aside0.mk (ah_ (bz HB.out) hb); clear hb ho6))
 (try simp only [Act.put, lsa_, ls0_, ls1_])
 go_loopg [5, 6] k (fun kq v5 v6 w' => ∃ (x5_1 : List Int) (x6_1 : Int), v6 = .int .i64 x6_1 ∧ Aside0 (aV_.l0 kq t101 (wrap64 ((t101.length : Int) - 1)) x5_1 x6_1 = some r) ∧ Aside0 (kq ≤ k) ∧ Aside0 (Kd.R Kd.string 9 w' w.heap.size (fun _ => True) (.slice Ao4 t101.length co4) t101) ∧ Aside0 (Kd.R (Kd.int .i64) 2 w' w.heap.size (fun _ => True) v5 x5_1) ∧ Aside0 (Below w.heap.size w w'))
 case atStart => exact ⟨(y104), (1), (by first | rfl | (simp; done) | (simp [*]; done)), H', ⟨Nat.le_refl _⟩, ⟨rz HO103.out⟩, ⟨rz HO106.out⟩, ⟨bz HB.out⟩⟩
 case round =>
  clear H'
  obtain ⟨x5_1, x6_1, rfl, HA, HK1, HO_3, HO_5, HB⟩ := hrel
  cases gk with
  | zero => exact absurd HA.out (by simp [aV_.l0])
  | succ k1 =>
   have H := HA.out
   clear HA
   simp only [aV_.l0] at H
   by_cases c7 : x6_1 < (wrap64 ((t101.length : Int) - 1))
   rotate_left
   ·rw [if_neg c7] at H
    have c7b0 : decide (x6_1 < (wrap64 ((t101.length : Int) - 1))) = false := decide_eq_false c7
    clear c7
    obtain ⟨ji18, hji18⟩ : ∃ j_ : Int, (wrap64 ((t101.length : Int) - 1)) = j_ := ⟨_, rfl⟩
    replace H : (if 0 ≤ (ji18) then (if (ji18) < (t101.length : Int) then (if (rdOf ByteArray.empty t101 (ji18)).toList = ([] : List UInt8) then (some x5_1) else (if x5_1.length < 17592186044416 then (some (x5_1 ++ [wrap64 ((ji18) + 1)])) else (none))) else (none)) else (none)) = some r := by first | (rw [hji18] at H; exact H) | (simp only [hji18] at H ⊢; exact H)
    (try rw [hji18] at c7b0)
    have hji18w : (IntKind.i64.wrap ((t101.length : Int) - 1)) = ji18 := (i64_w _).trans hji18
    by_cases c19 : 0 ≤ (ji18)
    rotate_left
    ·rw [if_neg c19] at H
     exact absurd H (by simp)
    rw [if_pos c19] at H
    have c19b0 : decide (0 ≤ (ji18)) = true := decide_eq_true c19
    clear c19
    by_cases c20 : (ji18) < (t101.length : Int)
    rotate_left
    ·rw [if_neg c20] at H
     exact absurd H (by simp)
    rw [if_pos c20] at H
    have c20b0 : decide ((ji18) < (t101.length : Int)) = true := decide_eq_true c20
    clear c20
    by_cases c21 : (rdOf ByteArray.empty t101 (ji18)).toList = ([] : List UInt8)
    rotate_left
    ·rw [if_neg c21] at H
     have c21b0 : ((rdOf ByteArray.empty t101 (ji18)).toList == ([] : List UInt8)) = false := beq_eq_false_iff_ne.mpr c21
     have c21b1 : ((rdOf ByteArray.empty t101 (ji18)).toList != ([] : List UInt8)) = true := bne_iff_ne.mpr c21
     (try (have c21b8 := c21b0; simp only [List.beq_nil_eq] at c21b8))
     by_cases c22 : x5_1.length < 17592186044416
     rotate_left
     ·rw [if_neg c22] at H
      exact absurd H (by simp)
     rw [if_pos c22] at H
     have LMc22 := Aside0.mk c22
     clear c22
     obtain ⟨y117, hy117⟩ : ∃ y_ : List Int, y_ = (x5_1 ++ [wrap64 ((ji18) + 1)]) := ⟨_, rfl⟩
     replace H : (some y117) = some r := by first | (rw [hy117]; with_reducible exact H) | (have H2_ := (Option.bind_some _ _).symm.trans H; rw [hy117]; with_reducible exact H2_) | (have H2_ := (Option.bind_some _ _).symm.trans H; with_reducible exact H2_) | with_reducible exact H | (rw [hy117]; exact H) | exact H
     have Ny117 := Aside0.mk hy117
     clear hy117
     obtain rfl := Option.some.inj H
     have p116 : 0 ≤ ((ji18) : Int) := of_decide_eq_true (by assumption)
     have q116 : (ji18) < (t101.length : Int) := of_decide_eq_true (by assumption)
     obtain ⟨ad116, e116, hx116_0⟩ := Kd.cc_ (Kd.aE_ HO_3.out).2.2 (ji18) p116 q116
     cases e116
     replace p116 := eq_true p116
     replace q116 := eq_true q116
     go_wp2_with (first | ((with_reducible refine aY_ (b := .append) (xs := #[.tmp 40, .tmp 43]) rfl ?_); at_builtin; refine Kd.bM_ (Kd.int .i64) (w0 := w) w.heap.size rfl (.tmp 40) (.tmp 43) 22 2 (.int .i64 0) 8 rfl Tryd.underlying22 info2 rfl (by decide) (by omega) u5 x5_1 (wrap64 ((ji18) + 1)) [.int .i64 (wrap64 ((ji18) + 1))] (fun _ => True) (fun _ => False) rfl rfl ?aP (fun _ hk => hk.elim) ?aF ?aO ?aB ?aS ?aL ?_; (case aP => exact rfl); (case aB => exact (bz HB.out)); (case aF => exact (fun _ _ => trivial)); (case aO => exact (rz HO_5.out)); (case aS => exact (ak_ (bz HB.out))); (case aL => have := LMc22.out; omega); intro v118 w23 ho hb hg hat; rw [← Ny117.out] at ho; replace HO_3 := Aside0.mk (Kd.R_over' (rz HO_3.out) (Kd.R_typed (rz HO_5.out)) (by decide) hg); replace HB := Aside0.mk (hb); have HO119 := Aside0.mk (ho); clear HO_5; clear ho hb hg hat))
     go_ret
     exact ⟨_, by first | rfl | (simp [aw_, av_] <;> rfl) | (simp only [← hji18]; first | rfl | (simp [aw_, av_] <;> rfl)) | (simp [*, aw_, av_] <;> rfl), rz HO119.out, bz HB.out⟩
    rw [if_pos c21] at H
    have c21b0 : ((rdOf ByteArray.empty t101 (ji18)).toList == ([] : List UInt8)) = true := beq_iff_eq.mpr c21
    have c21b1 : ((rdOf ByteArray.empty t101 (ji18)).toList != ([] : List UInt8)) = false := bne_eq_false_iff_eq.mpr c21
    (try (have c21b8 := c21b0; simp only [List.beq_nil_eq] at c21b8))
    clear c21
    obtain rfl := Option.some.inj H
    have p116 : 0 ≤ ((ji18) : Int) := of_decide_eq_true (by assumption)
    have q116 : (ji18) < (t101.length : Int) := of_decide_eq_true (by assumption)
    obtain ⟨ad116, e116, hx116_0⟩ := Kd.cc_ (Kd.aE_ HO_3.out).2.2 (ji18) p116 q116
    cases e116
    replace p116 := eq_true p116
    replace q116 := eq_true q116
    go_wp2
    go_ret
    exact ⟨_, by first | rfl | (simp [aw_, av_] <;> rfl) | (simp only [← hji18]; first | rfl | (simp [aw_, av_] <;> rfl)) | (simp [*, aw_, av_] <;> rfl), rz HO_5.out, bz HB.out⟩
   rw [if_pos c7] at H
   have c7b0 : decide (x6_1 < (wrap64 ((t101.length : Int) - 1))) = true := decide_eq_true c7
   clear c7
   by_cases c8 : 0 ≤ x6_1
   rotate_left
   ·rw [if_neg c8] at H
    exact absurd H (by simp)
   rw [if_pos c8] at H
   have c8b0 : decide (0 ≤ x6_1) = true := decide_eq_true c8
   clear c8
   by_cases c9 : x6_1 < (t101.length : Int)
   rotate_left
   ·rw [if_neg c9] at H
    exact absurd H (by simp)
   rw [if_pos c9] at H
   have c9b0 : decide (x6_1 < (t101.length : Int)) = true := decide_eq_true c9
   clear c9
   replace H := Option.bind_eq_some_iff.mp H
   obtain ⟨⟨t108, t109, t110, t111⟩, A100, H⟩ := H
   (try dsimp only at H)
   have A10 := Aside0.mk A100
   clear A100
   have HC11 := Aside0.mk H
   clear H
   have p107 : 0 ≤ (x6_1 : Int) := of_decide_eq_true (by assumption)
   have q107 : x6_1 < (t101.length : Int) := of_decide_eq_true (by assumption)
   obtain ⟨ad107, e107, hx107_0⟩ := Kd.cc_ (Kd.aE_ HO_3.out).2.2 x6_1 p107 q107
   cases e107
   replace p107 := eq_true p107
   replace q107 := eq_true q107
   go_upto_if 29 with (first | ((with_reducible refine al_ (f := 29) rfl ?_); refine bf_ (some 25) rfl rfl Tryd.func29 (by kernel_rfl) rfl #[.string (rdOf ByteArray.empty t101 x6_1)] rfl (by first | rfl | (simp only [lma_, lmc_, lmn_]; first | done | rfl)) ?_; (with_reducible refine (ax_.calls k1 (rdOf ByteArray.empty t101 x6_1) t108 t109 t110 t111 _ ?side1 A10.out).mono ?_); (case side1 => exact cN_ HTab_.out (bz HB.out)); rintro e w12 ⟨rfl, hb⟩; refine ⟨_, rfl, ?_⟩; replace HO_3 := Aside0.mk (Kd.bI_ (rz HO_3.out) hb); replace HO_5 := Aside0.mk (Kd.bI_ (rz HO_5.out) hb); replace HB := Aside0.mk (ah_ (bz HB.out) hb); (try clear hb)) | ((with_reducible refine aS_ (N := 7) rfl ?_); refine bB_ ?hg (N := 7) ?hd (cs := #[.string (⟨#[]⟩ : ByteArray), .string (⟨#[]⟩ : ByteArray), .string (⟨#[]⟩ : ByteArray)]) (t := 43) ?hr ?_; (case hd => rfl); (case hg => rfl); (case hr => (go_simp; try rfl)); intro gb112 hg w13 hbox hb; replace HO_3 := Aside0.mk (Kd.bI_ (rz HO_3.out) hb); replace HO_5 := Aside0.mk (Kd.bI_ (rz HO_5.out) hb); have BK112 := Aside0.mk (hbox); have GW112 := Aside0.mk ((by rw [hg]; exact (ak_ (bz HB.out)) : w.heap.size ≤ gb112)); have GE112 := GW112; replace HB := Aside0.mk (ah_ (bz HB.out) hb); clear hb hbox hg; obtain ⟨hcz14_0, hcz14_1, hcz14_2⟩ := cz3_ BK112.out; obtain ⟨hfz14_0, hfz14_1, hfz14_2⟩ := fz3_ BK112.out))
   (try simp only [Act.put, lsa_, ls0_, ls1_])
   have H := HC11.out
   clear HC11
   by_cases c15 : t111 = 0
   rotate_left
   ·rw [if_neg c15] at H
    have c15b0 : (t111 == 0) = false := beq_eq_false_iff_ne.mpr c15
    have c15b1 : (t111 != 0) = true := bne_iff_ne.mpr c15
    (first | rw [c15b0] | (simp only [i64_w, i32_w]; rw [c15b0]) | (simp only [c15b1, Bool.not_true, Bool.not_false]) | (simp only [c15b0, Bool.not_true, Bool.not_false]) | skip)
    by_cases c16 : x5_1.length < 17592186044416
    rotate_left
    ·rw [if_neg c16] at H
     exact absurd H (by simp)
    rw [if_pos c16] at H
    have LMc16 := Aside0.mk c16
    clear c16
    obtain ⟨y113, hy113⟩ : ∃ y_ : List Int, y_ = (x5_1 ++ [wrap64 (x6_1 + 1)]) := ⟨_, rfl⟩
    replace H : (aV_.l0 k1 t101 (wrap64 ((t101.length : Int) - 1)) y113 (wrap64 (x6_1 + 1))) = some r := by first | (rw [hy113]; with_reducible exact H) | (have H2_ := (Option.bind_some _ _).symm.trans H; rw [hy113]; with_reducible exact H2_) | (have H2_ := (Option.bind_some _ _).symm.trans H; with_reducible exact H2_) | with_reducible exact H | (rw [hy113]; exact H) | exact H
    have Ny113 := Aside0.mk hy113
    clear hy113
    have H' := Aside0.mk H
    clear H
    go_wp2_with (first | ((with_reducible refine aY_ (b := .append) (xs := #[.tmp 30, .tmp 33]) rfl ?_); at_builtin; refine Kd.bM_ (Kd.int .i64) (w0 := w) w.heap.size rfl (.tmp 30) (.tmp 33) 22 2 (.int .i64 0) 8 rfl Tryd.underlying22 info2 rfl (by decide) (by omega) u5 x5_1 (wrap64 (x6_1 + 1)) [.int .i64 (wrap64 (x6_1 + 1))] (fun _ => True) (fun _ => False) rfl (by first | (go_simp; done) | (go_simp; rfl)) ?aP (fun _ hk => hk.elim) ?aF ?aO ?aB ?aS ?aL ?_; (case aP => exact rfl); (case aB => exact (bq)); (case aF => exact (fun _ _ => trivial)); (case aO => exact (rz (Kd.aG_ (Kd.R_far (p := ⟨gb112, 2, none⟩) (Kd.R_far (p := ⟨gb112, 1, none⟩) (Kd.R_far (p := ⟨gb112, 0, none⟩) (Kd.bY_ HO_5.out BK112.out (by decide)) (fun _ hk => hk.2) (.string t108)) (fun _ hk => hk.2) (.string t109)) (fun _ hk => hk.2) (.string t110)) (fun _ hk => trivial)))); (case aS => exact (ak_ (bq))); (case aL => have := LMc16.out; omega); intro v114 w17 ho hb hg hat; rw [← Ny113.out] at ho; replace HO_3 := Aside0.mk (Kd.R_over' (rz (Kd.aG_ (Kd.R_far (p := ⟨gb112, 2, none⟩) (Kd.R_far (p := ⟨gb112, 1, none⟩) (Kd.R_far (p := ⟨gb112, 0, none⟩) (Kd.bY_ HO_3.out BK112.out (by decide)) (fun _ hk => hk.2) (.string t108)) (fun _ hk => hk.2) (.string t109)) (fun _ hk => hk.2) (.string t110)) (fun _ h_ => h_.1))) (Kd.R_typed (rz (Kd.aG_ (Kd.R_far (p := ⟨gb112, 2, none⟩) (Kd.R_far (p := ⟨gb112, 1, none⟩) (Kd.R_far (p := ⟨gb112, 0, none⟩) (Kd.bY_ HO_5.out BK112.out (by decide)) (fun _ hk => hk.2) (.string t108)) (fun _ hk => hk.2) (.string t109)) (fun _ hk => hk.2) (.string t110)) (fun _ h_ => h_.1)))) (by decide) hg); replace BK112 := Aside0.mk (bH_ (g := gb112) (o := .cells #[.string t108, .string t109, .string t110] 43 (0, 0)) (by exact kj3_2 (kj3_1 (kj3_0 (kz BK112.out)))) hg (Kd.R_ne HO_5.out BK112.out (by decide))); replace HB := Aside0.mk (hb); have HO115 := Aside0.mk (ho); clear HO_5; clear ho hb hg hat))
    go_roundg k1
    case measure => have := HK1.out; omega
    case rel => exact ⟨(y113), (wrap64 (x6_1 + 1)), (by first | rfl | (simp; done) | (simp [*]; done)), H', ⟨by have := HK1.out; omega⟩, ⟨rz HO_3.out⟩, ⟨rz HO115.out⟩, ⟨bq⟩⟩
   rw [if_pos c15] at H
   have c15b0 : (t111 == 0) = true := beq_iff_eq.mpr c15
   have c15b1 : (t111 != 0) = false := bne_eq_false_iff_eq.mpr c15
   clear c15
   (first | rw [c15b0] | (simp only [i64_w, i32_w]; rw [c15b0]) | (simp only [c15b1, Bool.not_true, Bool.not_false]) | (simp only [c15b0, Bool.not_true, Bool.not_false]) | skip)
   have H' := Aside0.mk H
   clear H
   go_wp2
   go_roundg k1
   case measure => have := HK1.out; omega
   case rel => exact ⟨(x5_1), (wrap64 (x6_1 + 1)), (by first | rfl | (simp; done) | (simp [*]; done)), H', ⟨by have := HK1.out; omega⟩, ⟨rz (Kd.aG_ (Kd.R_far (p := ⟨gb112, 2, none⟩) (Kd.R_far (p := ⟨gb112, 1, none⟩) (Kd.R_far (p := ⟨gb112, 0, none⟩) (Kd.bY_ HO_3.out BK112.out (by decide)) (fun _ hk => hk.2) (.string t108)) (fun _ hk => hk.2) (.string t109)) (fun _ hk => hk.2) (.string t110)) (fun _ hk => trivial))⟩, ⟨rz (Kd.aG_ (Kd.R_far (p := ⟨gb112, 2, none⟩) (Kd.R_far (p := ⟨gb112, 1, none⟩) (Kd.R_far (p := ⟨gb112, 0, none⟩) (Kd.bY_ HO_5.out BK112.out (by decide)) (fun _ hk => hk.2) (.string t108)) (fun _ hk => hk.2) (.string t109)) (fun _ hk => hk.2) (.string t110)) (fun _ hk => trivial))⟩, ⟨bq⟩⟩
def strings_Compare.f (a0 : ByteArray) (a1 : ByteArray) : Option (Int) := some (Go.Lib.compareBytes a0.data.toList a1.data.toList)
theorem strings_Compare.calls (a0 : ByteArray) (a1 : ByteArray) (r : Int) (w : World) (h : strings_Compare.f a0 a1 = some r) :
  Calls Tryd.prog 60 #[.string a0, .string a1] w fun e w' => e = .returned (.int .i64 r) ∧ an_ w w' := by
 obtain rfl := Option.some.inj h
 refine (Go.Proofs.Tryd.strings_Compare a0 a1 w).mono ?_
 rintro e w' ⟨rfl, rfl⟩
 exact ⟨rfl, an_.refl _⟩
def bi_.f (a0_0 : ByteArray) (a0_1 : ByteArray) (a0_2 : ByteArray) (a1_0 : ByteArray) (a1_1 : ByteArray) (a1_2 : ByteArray) : Option (Int) := (strings_Compare.f a0_0 a1_0).bind fun t103 => (if t103 = 0 then ((strings_Compare.f a0_1 a1_1).bind fun t104 => (some t104)) else (some t103))
set_option maxHeartbeats 8000000 in
set_option maxRecDepth 100000 in
theorem bi_.calls (a0_0 : ByteArray) (a0_1 : ByteArray) (a0_2 : ByteArray) (a1_0 : ByteArray) (a1_1 : ByteArray) (a1_2 : ByteArray) (r : Int) (w : World) (h : bi_.f a0_0 a0_1 a0_2 a1_0 a1_1 a1_2 = some r) :
  Calls Tryd.prog 36 #[.agg #[.string a0_0, .string a0_1, .string a0_2], .agg #[.string a1_0, .string a1_1, .string a1_2]] w fun e w' => e = .returned (.int .i64 r) ∧ Below w.heap.size w w' := by
 have hu43 := Tryd.underlying43
 have HB := Aside0.mk (Below.refl w.heap.size w)
 have H : ((strings_Compare.f a0_0 a1_0).bind fun t103 => (if t103 = 0 then ((strings_Compare.f a0_1 a1_1).bind fun t104 => (some t104)) else (some t103))) = some r := h
 clear h
 replace H := Option.bind_eq_some_iff.mp H
 obtain ⟨t103, A30, H⟩ := H
 (try dsimp only at H)
 have A3 := Aside0.mk A30
 clear A30
 have HC4 := Aside0.mk H
 clear H
 go_enter Tryd.func36, Tryd.ntmps36
 go_upto_if 12 with (first | ((with_reducible refine aS_ (N := 2) rfl ?_); refine bB_ ?hg (N := 2) ?hd (cs := #[.string a0_0, .string a0_1, .string a0_2]) (t := 43) ?hr ?_; (case hd => rfl); (case hg => rfl); (case hr => (go_simp; try rfl)); intro gb101 hg w5 hbox hb; have BK101 := Aside0.mk (hbox); have GW101 := Aside0.mk ((by rw [hg]; exact (ak_ (bz HB.out)) : w.heap.size ≤ gb101)); have GE101 := GW101; replace HB := Aside0.mk (ah_ (bz HB.out) hb); clear hb hbox hg) | ((with_reducible refine aS_ (N := 3) rfl ?_); refine bB_ ?hg (N := 3) ?hd (cs := #[.string a1_0, .string a1_1, .string a1_2]) (t := 43) ?hr ?_; (case hd => rfl); (case hg => rfl); (case hr => (go_simp; try rfl)); intro gb102 hg w6 hbox hb; have BK102 := Aside0.mk (hbox); have GW102 := Aside0.mk ((by rw [hg]; exact (ak_ (bq)) : w.heap.size ≤ gb102)); have GE102 := GW102; replace HB := Aside0.mk (ah_ (bq) hb); have NB101_102 := Aside0.mk ((by rw [hg]; exact Nat.ne_of_lt (bX_ (kz BK101.out)) : gb101 ≠ gb102)); have NB102_101 := Aside0.mk ((by rw [hg]; exact Nat.ne_of_gt (bX_ (kz BK101.out)) : gb102 ≠ gb101)); replace BK101 := Aside0.mk (az_ (kz BK101.out) hb); clear hb hbox hg; have hnb7 := NB101_102.out; have hnc7 := NB102_101.out; obtain ⟨hcz8_0, hcz8_1, hcz8_2⟩ := cz3_ BK101.out; obtain ⟨hfz8_0, hfz8_1, hfz8_2⟩ := fz3_ BK101.out; obtain ⟨hcz9_0, hcz9_1, hcz9_2⟩ := cz3_ BK102.out; obtain ⟨hfz9_0, hfz9_1, hfz9_2⟩ := fz3_ BK102.out) | ((with_reducible refine al_ (f := 60) rfl ?_); refine bf_ (some 10) rfl rfl Tryd.func60 (by kernel_rfl) rfl #[.string a0_0, .string a1_0] rfl (by first | rfl | (simp only [lma_, lmc_, lmn_]; first | done | rfl)) ?_; (with_reducible refine (strings_Compare.calls a0_0 a1_0 t103 _ A3.out).mono ?_); rintro e w' ⟨rfl, ⟨nd, rfl⟩⟩; refine ⟨_, rfl, ?_⟩; (try (rw [cS_ w6]; generalize hq_ : World.drewN w6 _ = w6; have n0_ : Aside0 (w6.heap[gb101]? = some (.cells #[.string a0_0, .string a0_1, .string a0_2] 43 (0, 0))) := ⟨by rw [← hq_]; exact (kz BK101.out)⟩; have n1_ : Aside0 (w6.heap[gb102]? = some (.cells #[.string a1_0, .string a1_1, .string a1_2] 43 (0, 0))) := ⟨by rw [← hq_]; exact (kz BK102.out)⟩; have n2_ : Aside0 (Below w.heap.size w w6) := ⟨by rw [← hq_]; exact (bq)⟩; clear BK101 BK102 HB hq_; have BK101 := n0_; have BK102 := n1_; have HB := n2_; clear n0_ n1_ n2_))))
 (try simp only [Act.put, lsa_, ls0_, ls1_])
 have H := HC4.out
 clear HC4
 by_cases c10 : t103 = 0
 rotate_left
 ·rw [if_neg c10] at H
  have c10b0 : (t103 == 0) = false := beq_eq_false_iff_ne.mpr c10
  have c10b1 : (t103 != 0) = true := bne_iff_ne.mpr c10
  (first | rw [c10b0] | (simp only [i64_w, i32_w]; rw [c10b0]) | (simp only [c10b1, Bool.not_true, Bool.not_false]) | (simp only [c10b0, Bool.not_true, Bool.not_false]) | skip)
  obtain rfl := Option.some.inj H
  go_wp2
  go_ret
  exact ⟨by first | rfl | (simp [*, aw_, av_] <;> rfl), bq⟩
 rw [if_pos c10] at H
 have c10b0 : (t103 == 0) = true := beq_iff_eq.mpr c10
 have c10b1 : (t103 != 0) = false := bne_eq_false_iff_eq.mpr c10
 clear c10
 (first | rw [c10b0] | (simp only [i64_w, i32_w]; rw [c10b0]) | (simp only [c10b1, Bool.not_true, Bool.not_false]) | (simp only [c10b0, Bool.not_true, Bool.not_false]) | skip)
 replace H := Option.bind_eq_some_iff.mp H
 obtain ⟨t104, A110, H⟩ := H
 (try dsimp only at H)
 have A11 := Aside0.mk A110
 clear A110
 obtain rfl := Option.some.inj H
 have hnb12 := NB101_102.out
 have hnc12 := NB102_101.out
 obtain ⟨hcz13_0, hcz13_1, hcz13_2⟩ := cz3_ BK101.out
 obtain ⟨hfz13_0, hfz13_1, hfz13_2⟩ := fz3_ BK101.out
 obtain ⟨hcz14_0, hcz14_1, hcz14_2⟩ := cz3_ BK102.out
 obtain ⟨hfz14_0, hfz14_1, hfz14_2⟩ := fz3_ BK102.out
 go_wp2_with (first | ((with_reducible refine al_ (f := 60) rfl ?_); refine bf_ (some 18) rfl rfl Tryd.func60 (by kernel_rfl) rfl #[.string a0_1, .string a1_1] rfl (by first | rfl | (simp only [lma_, lmc_, lmn_]; first | done | rfl)) ?_; (with_reducible refine (strings_Compare.calls a0_1 a1_1 t104 _ A11.out).mono ?_); rintro e w' ⟨rfl, ⟨nd, rfl⟩⟩; refine ⟨_, rfl, ?_⟩; (try (rw [cS_ w6]; generalize hq_ : World.drewN w6 _ = w6; have n0_ : Aside0 (w6.heap[gb101]? = some (.cells #[.string a0_0, .string a0_1, .string a0_2] 43 (0, 0))) := ⟨by rw [← hq_]; exact (kz BK101.out)⟩; have n1_ : Aside0 (w6.heap[gb102]? = some (.cells #[.string a1_0, .string a1_1, .string a1_2] 43 (0, 0))) := ⟨by rw [← hq_]; exact (kz BK102.out)⟩; have n2_ : Aside0 (Below w.heap.size w w6) := ⟨by rw [← hq_]; exact (bq)⟩; clear BK101 BK102 HB hq_; have BK101 := n0_; have BK102 := n1_; have HB := n2_; clear n0_ n1_ n2_))))
 go_ret
 exact ⟨by first | rfl | (simp [*, aw_, av_] <;> rfl), bq⟩
def as_.l0 : Nat → List (S43) → List (S43) → Int → Int → Option (Bool)
 | 0, _, _, _, _ => none
 | k + 1, x0, x5, x6, x7 => if x7 < x6 then (if 0 ≤ x7 then (if x7 < (x5.length : Int) then ((aT_.f k ((aa_ x5 x7).f0) ((aa_ x5 x7).f1) ((aa_ x5 x7).f2)).bind fun t103 => (if t103 = true then (if x7 > 0 then (if 0 ≤ (wrap64 (x7 - 1)) then (if (wrap64 (x7 - 1)) < (x0.length : Int) then ((bi_.f ((aa_ x0 (wrap64 (x7 - 1))).f0) ((aa_ x0 (wrap64 (x7 - 1))).f1) ((aa_ x0 (wrap64 (x7 - 1))).f2) ((aa_ x5 x7).f0) ((aa_ x5 x7).f1) ((aa_ x5 x7).f2)).bind fun t105 => (if t105 ≥ 0 then (some false) else (as_.l0 k x0 x5 x6 (wrap64 (x7 + 1))))) else (none)) else (none)) else (as_.l0 k x0 x5 x6 (wrap64 (x7 + 1)))) else (some false))) else (none)) else (none)) else (some (decide ((x0.length : Int) ≤ 32)))
def as_.f (k : Nat) (l0 : List (S43)) : Option (Bool) := as_.l0 k l0 l0 (l0.length : Int) 0
def as_.T4 : Bool × List (List Nat × List Nat) := (true, [([], []), ([0], [0]), ([1], [1]), ([2, 1], [2]), ([3], [3]), ([4, 3], [3, 4]), ([5, 3, 3], [3, 5]), ([6], [6]), ([6], [6]), ([8, 6], [6, 8]), ([7, 9, 6], [6, 7, 9]), ([10, 6], [6, 10]), ([6], [6]), ([11, 12, 6, 6], [6, 11, 12]), ([13, 6], [6, 13]), ([6, 14, 3], [3, 6, 14]), ([3, 15], [3, 15])])
def as_.B4 : List Nat := [0, 1, 3, 7, 15, 31, 63, 127, 127, 383, 1023, 2047, 127, 8191, 16383, 32767, 65535]
theorem as_.tab4 : rtab .any (opsOf Tryd.f61 4) = as_.T4 := by kernel_rfl
theorem as_.bits4 : cE_ as_.T4.2 as_.B4 = true := by kernel_rfl
set_option maxHeartbeats 8000000 in
set_option maxRecDepth 100000 in
theorem as_.calls (k : Nat) (A0 : Option Addr) (c0 : Nat) (l0 : List (S43)) (r : Bool) (w : World) (hr0 : Kd.C k43 w A0 l0.length l0) (hc0 : l0.length ≤ c0) (h : as_.f k l0 = some r) :
  Calls Tryd.prog 61 #[.slice A0 l0.length c0] w fun e w' => e = .returned (.bool r) ∧ Below w.heap.size w w' := by
 have hu43 := Tryd.underlying43
 have HR0 := Aside0.mk hr0
 have HC0 := Aside0.mk hc0
 clear hr0 hc0
 have HB := Aside0.mk (Below.refl w.heap.size w)
 have H : (as_.l0 k l0 l0 (l0.length : Int) 0) = some r := h
 clear h
 have H' := Aside0.mk H
 clear H
 go_enter Tryd.func61, Tryd.ntmps61
 go_wp2
 (try simp only [Act.put, lsa_, ls0_, ls1_])
 go_loopg [7] k (fun kq v7 w' => ∃ (x7_1 : Int), v7 = .int .i64 x7_1 ∧ Aside0 (as_.l0 kq l0 l0 (l0.length : Int) x7_1 = some r) ∧ Aside0 (kq ≤ k) ∧ Aside0 (Below w.heap.size w w'))
 case atStart => exact ⟨(0), (by first | rfl | (simp; done) | (simp [*]; done)), H', ⟨Nat.le_refl _⟩, ⟨bz HB.out⟩⟩
 case round =>
  clear H'
  obtain ⟨x7_1, rfl, HA, HK1, HB⟩ := hrel
  cases gk with
  | zero => exact absurd HA.out (by simp [as_.l0])
  | succ k1 =>
   have H := HA.out
   clear HA
   simp only [as_.l0] at H
   by_cases c2 : x7_1 < (l0.length : Int)
   rotate_left
   ·rw [if_neg c2] at H
    have c2b0 : decide (x7_1 < (l0.length : Int)) = false := decide_eq_false c2
    clear c2
    obtain rfl := Option.some.inj H
    go_wp2
    go_ret
    exact ⟨by first | rfl | (simp [*, aw_, av_] <;> rfl), bz HB.out⟩
   rw [if_pos c2] at H
   have c2b0 : decide (x7_1 < (l0.length : Int)) = true := decide_eq_true c2
   clear c2
   by_cases c3 : 0 ≤ x7_1
   rotate_left
   ·rw [if_neg c3] at H
    exact absurd H (by simp)
   rw [if_pos c3] at H
   have c3b0 : decide (0 ≤ x7_1) = true := decide_eq_true c3
   clear c3
   by_cases c4 : x7_1 < (l0.length : Int)
   rotate_left
   ·rw [if_neg c4] at H
    exact absurd H (by simp)
   rw [if_pos c4] at H
   have c4b0 : decide (x7_1 < (l0.length : Int)) = true := decide_eq_true c4
   clear c4
   replace H := Option.bind_eq_some_iff.mp H
   obtain ⟨t103, A50, H⟩ := H
   (try dsimp only at H)
   have A5 := Aside0.mk A50
   clear A50
   by_cases c6 : t103 = true
   rotate_left
   ·replace c6 := Bool.eq_false_iff.mpr c6
    subst c6
    have H1 : (some false) = some r := by rw [if_neg (show ¬ (false = true) by decide)] at H; exact H
    clear H
    have H := H1
    clear H1
    obtain rfl := Option.some.inj H
    have p101 : 0 ≤ (x7_1 : Int) := of_decide_eq_true (by assumption)
    have q101 : x7_1 < (l0.length : Int) := of_decide_eq_true (by assumption)
    obtain ⟨ad101, e101, hx101_0, hx101_1, hx101_2⟩ := br_ HR0.out x7_1 p101 q101
    cases e101
    replace hx101_0 := bu_ HB.out hx101_0
    replace hx101_1 := bu_ HB.out hx101_1
    replace hx101_2 := bu_ HB.out hx101_2
    replace p101 := eq_true p101
    replace q101 := eq_true q101
    try go_wp2_with (first | ((with_reducible refine aS_ (N := 4) rfl ?_); refine bB_ ?hg (N := 4) ?hd (cs := #[.string (⟨#[]⟩ : ByteArray), .string (⟨#[]⟩ : ByteArray), .string (⟨#[]⟩ : ByteArray)]) (t := 43) ?hr ?_; (case hd => rfl); (case hg => rfl); (case hr => (go_simp; try rfl)); intro gb102 hg w25 hbox hb; have BK102 := Aside0.mk (hbox); have GW102 := Aside0.mk ((by rw [hg]; exact (ak_ (bz HB.out)) : w.heap.size ≤ gb102)); have GE102 := GW102; replace HB := Aside0.mk (ah_ (bz HB.out) hb); clear hb hbox hg; obtain ⟨hcz26_0, hcz26_1, hcz26_2⟩ := cz3_ BK102.out; obtain ⟨hfz26_0, hfz26_1, hfz26_2⟩ := fz3_ BK102.out))
    have n0_ : Aside0 ((((w25.setCell ⟨gb102, 0, none⟩ (.string ((aa_ l0 x7_1).f0))).setCell ⟨gb102, 1, none⟩ (.string ((aa_ l0 x7_1).f1))).setCell ⟨gb102, 2, none⟩ (.string ((aa_ l0 x7_1).f2))).heap[gb102]? = some (.cells #[.string ((aa_ l0 x7_1).f0), .string ((aa_ l0 x7_1).f1), .string ((aa_ l0 x7_1).f2)] 43 (0, 0))) := ⟨by exact kj3_2 (kj3_1 (kj3_0 (kz BK102.out)))⟩
    have n1_ : Aside0 (Below w.heap.size w (((w25.setCell ⟨gb102, 0, none⟩ (.string ((aa_ l0 x7_1).f0))).setCell ⟨gb102, 1, none⟩ (.string ((aa_ l0 x7_1).f1))).setCell ⟨gb102, 2, none⟩ (.string ((aa_ l0 x7_1).f2)))) := ⟨bq⟩
    (try clear BK102)
    (try clear HB)
    generalize (((w25.setCell ⟨gb102, 0, none⟩ (.string ((aa_ l0 x7_1).f0))).setCell ⟨gb102, 1, none⟩ (.string ((aa_ l0 x7_1).f1))).setCell ⟨gb102, 2, none⟩ (.string ((aa_ l0 x7_1).f2))) = w27 at n0_ n1_ ⊢
    have BK102 := n0_
    have HB := n1_
    clear n0_ n1_
    have n0_ := Aside0.mk (aX_ BK102.out)
    have n1_ := Aside0.mk (bD_ HB.out)
    clear BK102
    clear HB
    have BK102 := n0_
    have HB := n1_
    clear n0_ n1_
    refine cW_ (n := 17) (S := fun w' => w'.cell? ⟨gb102, 0, none⟩ = some (.string ((aa_ l0 x7_1).f0)) ∧ w'.cell? ⟨gb102, 1, none⟩ = some (.string ((aa_ l0 x7_1).f1)) ∧ w'.cell? ⟨gb102, 2, none⟩ = some (.string ((aa_ l0 x7_1).f2))) (ds := []) #[f_,f_,f_,f_,f_,f_,f_,f_,f_,f_,f_,f_,f_,f_,f_,f_,f_] (by kernel_rfl) rfl rfl ⟨(ar_ BK102.out 0).trans rfl, (ar_ BK102.out 1).trans rfl, (ar_ BK102.out 2).trans rfl⟩ (fun hHeld => ?_); refine ce_ as_.tab4 as_.bits4 (fun HT_ HW_ => ?_)
    generalize w27.drew = w28 at BK102 HB hHeld ⊢
    refine tk 0 12 #[t_,f_,f_,f_,f_,f_,f_,f_,f_,f_,f_,f_,f_,f_,f_,f_,f_] HT_ HW_ hHeld ?_ (hv := by rintro w' ⟨s0, s1, s2⟩; go_simp; with_reducible rfl)
    refine one_ (i := 1) (N := some 13) #[t_,t_,f_,f_,f_,f_,f_,f_,f_,f_,f_,f_,f_,f_,f_,f_,f_] rfl rfl (bZ_ HT_.out (by kernel_rfl)) (by decide) (fun K hK => ?_)
    (first | refine goes_ Tryd.func53 (by kernel_rfl) rfl #[.agg #[.string ((aa_ l0 x7_1).f0), .string ((aa_ l0 x7_1).f1), .string ((aa_ l0 x7_1).f2)]] (by rfl) rfl rfl (by first | rfl | (simp only [lma_, lmc_, lmn_]; first | done | rfl)) ?_ | refine RPW.cj_ Tryd.func53 (by kernel_rfl) rfl #[.agg #[.string ((aa_ l0 x7_1).f0), .string ((aa_ l0 x7_1).f1), .string ((aa_ l0 x7_1).f2)]] (by rfl) rfl rfl rfl (by first | rfl | (simp only [lma_, lmc_, lmn_]; first | done | rfl)) ?_ | refine RPW.ci_ Tryd.func53 (by kernel_rfl) rfl #[.agg #[.string ((aa_ l0 x7_1).f0), .string ((aa_ l0 x7_1).f1), .string ((aa_ l0 x7_1).f2)]] (by rfl) rfl rfl rfl (by first | rfl | (simp only [lma_, lmc_, lmn_]; first | done | rfl)) ?_)
    with_reducible refine (aT_.calls k1 ((aa_ l0 x7_1).f0) ((aa_ l0 x7_1).f1) ((aa_ l0 x7_1).f2) false _ A5.out).mono ?_
    rintro e w29 ⟨rfl, hb⟩
    refine ⟨_, rfl, ?_⟩
    have n0_ := Aside0.mk (az_ (kz BK102.out) hb)
    have n1_ := Aside0.mk (ah_ (bq) hb)
    clear BK102
    clear HB
    have BK102 := n0_
    have HB := n1_
    clear n0_ n1_
    (try clear hb)
    refine hK.out _ _ ⟨(ar_ BK102.out 0).trans rfl, (ar_ BK102.out 1).trans rfl, (ar_ BK102.out 2).trans rfl⟩ (fun hHeld => ?_)
    clear hK K
    refine norm_ (a' := ?_) ?_ ?_
    rotate_left
    ·show Act.put _ (some 13) _ = _
     simp only [Act.put, lsa_, ls0_, ls1_, i64_w, i32_w]
     rfl
    refine pu 2 14 #[t_,t_,t_,f_,f_,f_,f_,f_,f_,f_,f_,f_,f_,f_,f_,f_,f_] HT_ ?_
    refine pu 3 15 #[t_,t_,t_,t_,f_,f_,f_,f_,f_,f_,f_,f_,f_,f_,f_,f_,f_] HT_ ?_
    refine pn 4 16 #[t_,t_,t_,t_,t_,f_,f_,f_,f_,f_,f_,f_,f_,f_,f_,f_,f_] HT_ ?_
    refine pn 5 17 #[t_,t_,t_,t_,t_,t_,f_,f_,f_,f_,f_,f_,f_,f_,f_,f_,f_] HT_ ?_
    refine pn 6 18 #[t_,t_,t_,t_,t_,t_,t_,f_,f_,f_,f_,f_,f_,f_,f_,f_,f_] HT_ ?_
    refine pn 7 19 #[t_,t_,t_,t_,t_,t_,t_,t_,f_,f_,f_,f_,f_,f_,f_,f_,f_] HT_ ?_
    refine pn 8 20 #[t_,t_,t_,t_,t_,t_,t_,t_,t_,f_,f_,f_,f_,f_,f_,f_,f_] HT_ ?_
    refine pn 9 21 #[t_,t_,t_,t_,t_,t_,t_,t_,t_,t_,f_,f_,f_,f_,f_,f_,f_] HT_ ?_
    refine pn 10 22 #[t_,t_,t_,t_,t_,t_,t_,t_,t_,t_,t_,f_,f_,f_,f_,f_,f_] HT_ ?_
    refine pn 11 23 #[t_,t_,t_,t_,t_,t_,t_,t_,t_,t_,t_,t_,f_,f_,f_,f_,f_] HT_ ?_
    refine pn 12 24 #[t_,t_,t_,t_,t_,t_,t_,t_,t_,t_,t_,t_,t_,f_,f_,f_,f_] HT_ ?_
    refine pn 13 25 #[t_,t_,t_,t_,t_,t_,t_,t_,t_,t_,t_,t_,t_,t_,f_,f_,f_] HT_ ?_
    refine pn 14 26 #[t_,t_,t_,t_,t_,t_,t_,t_,t_,t_,t_,t_,t_,t_,t_,f_,f_] HT_ ?_
    refine pn 15 27 #[t_,t_,t_,t_,t_,t_,t_,t_,t_,t_,t_,t_,t_,t_,t_,t_,f_] HT_ ?_
    refine pu 16 28 #[t_,t_,t_,t_,t_,t_,t_,t_,t_,t_,t_,t_,t_,t_,t_,t_,t_] HT_ ?_
    refine done_ (cO_ HT_.out (by kernel_rfl)) ?_
    try go_wp2
    go_ret
    exact ⟨by first | rfl | (simp [*, aw_, av_] <;> rfl), bq⟩
   subst c6
   have H1 : (if x7_1 > 0 then (if 0 ≤ (wrap64 (x7_1 - 1)) then (if (wrap64 (x7_1 - 1)) < (l0.length : Int) then ((bi_.f ((aa_ l0 (wrap64 (x7_1 - 1))).f0) ((aa_ l0 (wrap64 (x7_1 - 1))).f1) ((aa_ l0 (wrap64 (x7_1 - 1))).f2) ((aa_ l0 x7_1).f0) ((aa_ l0 x7_1).f1) ((aa_ l0 x7_1).f2)).bind fun t105 => (if t105 ≥ 0 then (some false) else (as_.l0 k1 l0 l0 (l0.length : Int) (wrap64 (x7_1 + 1))))) else (none)) else (none)) else (as_.l0 k1 l0 l0 (l0.length : Int) (wrap64 (x7_1 + 1)))) = some r := by rw [if_pos rfl] at H; exact H
   clear H
   have H := H1
   clear H1
   by_cases c7 : x7_1 > 0
   rotate_left
   ·rw [if_neg c7] at H
    have c7b0 : decide (0 < x7_1) = false := decide_eq_false c7
    clear c7
    have H' := Aside0.mk H
    clear H
    have p101 : 0 ≤ (x7_1 : Int) := of_decide_eq_true (by assumption)
    have q101 : x7_1 < (l0.length : Int) := of_decide_eq_true (by assumption)
    obtain ⟨ad101, e101, hx101_0, hx101_1, hx101_2⟩ := br_ HR0.out x7_1 p101 q101
    cases e101
    replace hx101_0 := bu_ HB.out hx101_0
    replace hx101_1 := bu_ HB.out hx101_1
    replace hx101_2 := bu_ HB.out hx101_2
    replace p101 := eq_true p101
    replace q101 := eq_true q101
    try go_wp2_with (first | ((with_reducible refine aS_ (N := 4) rfl ?_); refine bB_ ?hg (N := 4) ?hd (cs := #[.string (⟨#[]⟩ : ByteArray), .string (⟨#[]⟩ : ByteArray), .string (⟨#[]⟩ : ByteArray)]) (t := 43) ?hr ?_; (case hd => rfl); (case hg => rfl); (case hr => (go_simp; try rfl)); intro gb102 hg w20 hbox hb; have BK102 := Aside0.mk (hbox); have GW102 := Aside0.mk ((by rw [hg]; exact (ak_ (bz HB.out)) : w.heap.size ≤ gb102)); have GE102 := GW102; replace HB := Aside0.mk (ah_ (bz HB.out) hb); clear hb hbox hg; obtain ⟨hcz21_0, hcz21_1, hcz21_2⟩ := cz3_ BK102.out; obtain ⟨hfz21_0, hfz21_1, hfz21_2⟩ := fz3_ BK102.out))
    have n0_ : Aside0 ((((w20.setCell ⟨gb102, 0, none⟩ (.string ((aa_ l0 x7_1).f0))).setCell ⟨gb102, 1, none⟩ (.string ((aa_ l0 x7_1).f1))).setCell ⟨gb102, 2, none⟩ (.string ((aa_ l0 x7_1).f2))).heap[gb102]? = some (.cells #[.string ((aa_ l0 x7_1).f0), .string ((aa_ l0 x7_1).f1), .string ((aa_ l0 x7_1).f2)] 43 (0, 0))) := ⟨by exact kj3_2 (kj3_1 (kj3_0 (kz BK102.out)))⟩
    have n1_ : Aside0 (Below w.heap.size w (((w20.setCell ⟨gb102, 0, none⟩ (.string ((aa_ l0 x7_1).f0))).setCell ⟨gb102, 1, none⟩ (.string ((aa_ l0 x7_1).f1))).setCell ⟨gb102, 2, none⟩ (.string ((aa_ l0 x7_1).f2)))) := ⟨bq⟩
    (try clear BK102)
    (try clear HB)
    generalize (((w20.setCell ⟨gb102, 0, none⟩ (.string ((aa_ l0 x7_1).f0))).setCell ⟨gb102, 1, none⟩ (.string ((aa_ l0 x7_1).f1))).setCell ⟨gb102, 2, none⟩ (.string ((aa_ l0 x7_1).f2))) = w22 at n0_ n1_ ⊢
    have BK102 := n0_
    have HB := n1_
    clear n0_ n1_
    have n0_ := Aside0.mk (aX_ BK102.out)
    have n1_ := Aside0.mk (bD_ HB.out)
    clear BK102
    clear HB
    have BK102 := n0_
    have HB := n1_
    clear n0_ n1_
    refine cW_ (n := 17) (S := fun w' => w'.cell? ⟨gb102, 0, none⟩ = some (.string ((aa_ l0 x7_1).f0)) ∧ w'.cell? ⟨gb102, 1, none⟩ = some (.string ((aa_ l0 x7_1).f1)) ∧ w'.cell? ⟨gb102, 2, none⟩ = some (.string ((aa_ l0 x7_1).f2))) (ds := []) #[f_,f_,f_,f_,f_,f_,f_,f_,f_,f_,f_,f_,f_,f_,f_,f_,f_] (by kernel_rfl) rfl rfl ⟨(ar_ BK102.out 0).trans rfl, (ar_ BK102.out 1).trans rfl, (ar_ BK102.out 2).trans rfl⟩ (fun hHeld => ?_); refine ce_ as_.tab4 as_.bits4 (fun HT_ HW_ => ?_)
    generalize w22.drew = w23 at BK102 HB hHeld ⊢
    refine tk 0 12 #[t_,f_,f_,f_,f_,f_,f_,f_,f_,f_,f_,f_,f_,f_,f_,f_,f_] HT_ HW_ hHeld ?_ (hv := by rintro w' ⟨s0, s1, s2⟩; go_simp; with_reducible rfl)
    refine one_ (i := 1) (N := some 13) #[t_,t_,f_,f_,f_,f_,f_,f_,f_,f_,f_,f_,f_,f_,f_,f_,f_] rfl rfl (bZ_ HT_.out (by kernel_rfl)) (by decide) (fun K hK => ?_)
    (first | refine goes_ Tryd.func53 (by kernel_rfl) rfl #[.agg #[.string ((aa_ l0 x7_1).f0), .string ((aa_ l0 x7_1).f1), .string ((aa_ l0 x7_1).f2)]] (by rfl) rfl rfl (by first | rfl | (simp only [lma_, lmc_, lmn_]; first | done | rfl)) ?_ | refine RPW.cj_ Tryd.func53 (by kernel_rfl) rfl #[.agg #[.string ((aa_ l0 x7_1).f0), .string ((aa_ l0 x7_1).f1), .string ((aa_ l0 x7_1).f2)]] (by rfl) rfl rfl rfl (by first | rfl | (simp only [lma_, lmc_, lmn_]; first | done | rfl)) ?_ | refine RPW.ci_ Tryd.func53 (by kernel_rfl) rfl #[.agg #[.string ((aa_ l0 x7_1).f0), .string ((aa_ l0 x7_1).f1), .string ((aa_ l0 x7_1).f2)]] (by rfl) rfl rfl rfl (by first | rfl | (simp only [lma_, lmc_, lmn_]; first | done | rfl)) ?_)
    with_reducible refine (aT_.calls k1 ((aa_ l0 x7_1).f0) ((aa_ l0 x7_1).f1) ((aa_ l0 x7_1).f2) true _ A5.out).mono ?_
    rintro e w24 ⟨rfl, hb⟩
    refine ⟨_, rfl, ?_⟩
    have n0_ := Aside0.mk (az_ (kz BK102.out) hb)
    have n1_ := Aside0.mk (ah_ (bq) hb)
    clear BK102
    clear HB
    have BK102 := n0_
    have HB := n1_
    clear n0_ n1_
    (try clear hb)
    refine hK.out _ _ ⟨(ar_ BK102.out 0).trans rfl, (ar_ BK102.out 1).trans rfl, (ar_ BK102.out 2).trans rfl⟩ (fun hHeld => ?_)
    clear hK K
    refine norm_ (a' := ?_) ?_ ?_
    rotate_left
    ·show Act.put _ (some 13) _ = _
     simp only [Act.put, lsa_, ls0_, ls1_, i64_w, i32_w]
     rfl
    refine pu 2 14 #[t_,t_,t_,f_,f_,f_,f_,f_,f_,f_,f_,f_,f_,f_,f_,f_,f_] HT_ ?_
    refine pu 3 15 #[t_,t_,t_,t_,f_,f_,f_,f_,f_,f_,f_,f_,f_,f_,f_,f_,f_] HT_ ?_
    refine pu 4 16 #[t_,t_,t_,t_,t_,f_,f_,f_,f_,f_,f_,f_,f_,f_,f_,f_,f_] HT_ ?_
    refine pu 5 17 #[t_,t_,t_,t_,t_,t_,f_,f_,f_,f_,f_,f_,f_,f_,f_,f_,f_] HT_ ?_
    refine pu 6 18 #[t_,t_,t_,t_,t_,t_,t_,f_,f_,f_,f_,f_,f_,f_,f_,f_,f_] HT_ ?_
    refine pn 7 19 #[t_,t_,t_,t_,t_,t_,t_,t_,f_,f_,f_,f_,f_,f_,f_,f_,f_] HT_ ?_
    refine pn 8 20 #[t_,t_,t_,t_,t_,t_,t_,t_,t_,f_,f_,f_,f_,f_,f_,f_,f_] HT_ ?_
    refine pn 9 21 #[t_,t_,t_,t_,t_,t_,t_,t_,t_,t_,f_,f_,f_,f_,f_,f_,f_] HT_ ?_
    refine pn 10 22 #[t_,t_,t_,t_,t_,t_,t_,t_,t_,t_,t_,f_,f_,f_,f_,f_,f_] HT_ ?_
    refine pn 11 23 #[t_,t_,t_,t_,t_,t_,t_,t_,t_,t_,t_,t_,f_,f_,f_,f_,f_] HT_ ?_
    refine pn 12 24 #[t_,t_,t_,t_,t_,t_,t_,t_,t_,t_,t_,t_,t_,f_,f_,f_,f_] HT_ ?_
    refine pn 13 25 #[t_,t_,t_,t_,t_,t_,t_,t_,t_,t_,t_,t_,t_,t_,f_,f_,f_] HT_ ?_
    refine pn 14 26 #[t_,t_,t_,t_,t_,t_,t_,t_,t_,t_,t_,t_,t_,t_,t_,f_,f_] HT_ ?_
    refine pu 15 27 #[t_,t_,t_,t_,t_,t_,t_,t_,t_,t_,t_,t_,t_,t_,t_,t_,f_] HT_ ?_
    refine pu 16 28 #[t_,t_,t_,t_,t_,t_,t_,t_,t_,t_,t_,t_,t_,t_,t_,t_,t_] HT_ ?_
    refine done_ (cO_ HT_.out (by kernel_rfl)) ?_
    try go_wp2
    go_roundg k1
    case measure => have := HK1.out; omega
    case rel => exact ⟨(wrap64 (x7_1 + 1)), (by first | rfl | (simp; done) | (simp [*]; done)), H', ⟨by have := HK1.out; omega⟩, ⟨bq⟩⟩
   rw [if_pos c7] at H
   have c7b0 : decide (0 < x7_1) = true := decide_eq_true c7
   clear c7
   obtain ⟨ji8, hji8⟩ : ∃ j_ : Int, (wrap64 (x7_1 - 1)) = j_ := ⟨_, rfl⟩
   replace H : (if 0 ≤ (ji8) then (if (ji8) < (l0.length : Int) then ((bi_.f ((aa_ l0 (ji8)).f0) ((aa_ l0 (ji8)).f1) ((aa_ l0 (ji8)).f2) ((aa_ l0 x7_1).f0) ((aa_ l0 x7_1).f1) ((aa_ l0 x7_1).f2)).bind fun t105 => (if t105 ≥ 0 then (some false) else (as_.l0 k1 l0 l0 (l0.length : Int) (wrap64 (x7_1 + 1))))) else (none)) else (none)) = some r := by first | (rw [hji8] at H; exact H) | (simp only [hji8] at H ⊢; exact H)
   (try rw [hji8] at A5)
   have hji8w : (IntKind.i64.wrap (x7_1 - 1)) = ji8 := (i64_w _).trans hji8
   by_cases c9 : 0 ≤ (ji8)
   rotate_left
   ·rw [if_neg c9] at H
    exact absurd H (by simp)
   rw [if_pos c9] at H
   have c9b0 : decide (0 ≤ (ji8)) = true := decide_eq_true c9
   clear c9
   by_cases c10 : (ji8) < (l0.length : Int)
   rotate_left
   ·rw [if_neg c10] at H
    exact absurd H (by simp)
   rw [if_pos c10] at H
   have c10b0 : decide ((ji8) < (l0.length : Int)) = true := decide_eq_true c10
   clear c10
   replace H := Option.bind_eq_some_iff.mp H
   obtain ⟨t105, A110, H⟩ := H
   (try dsimp only at H)
   have A11 := Aside0.mk A110
   clear A110
   have HC12 := Aside0.mk H
   clear H
   have p101 : 0 ≤ (x7_1 : Int) := of_decide_eq_true (by assumption)
   have q101 : x7_1 < (l0.length : Int) := of_decide_eq_true (by assumption)
   obtain ⟨ad101, e101, hx101_0, hx101_1, hx101_2⟩ := br_ HR0.out x7_1 p101 q101
   cases e101
   replace hx101_0 := bu_ HB.out hx101_0
   replace hx101_1 := bu_ HB.out hx101_1
   replace hx101_2 := bu_ HB.out hx101_2
   replace p101 := eq_true p101
   replace q101 := eq_true q101
   try go_wp2_with (first | ((with_reducible refine aS_ (N := 4) rfl ?_); refine bB_ ?hg (N := 4) ?hd (cs := #[.string (⟨#[]⟩ : ByteArray), .string (⟨#[]⟩ : ByteArray), .string (⟨#[]⟩ : ByteArray)]) (t := 43) ?hr ?_; (case hd => rfl); (case hg => rfl); (case hr => (go_simp; try rfl)); intro gb102 hg w13 hbox hb; have BK102 := Aside0.mk (hbox); have GW102 := Aside0.mk ((by rw [hg]; exact (ak_ (bz HB.out)) : w.heap.size ≤ gb102)); have GE102 := GW102; replace HB := Aside0.mk (ah_ (bz HB.out) hb); clear hb hbox hg; obtain ⟨hcz14_0, hcz14_1, hcz14_2⟩ := cz3_ BK102.out; obtain ⟨hfz14_0, hfz14_1, hfz14_2⟩ := fz3_ BK102.out))
   have n0_ : Aside0 ((((w13.setCell ⟨gb102, 0, none⟩ (.string ((aa_ l0 x7_1).f0))).setCell ⟨gb102, 1, none⟩ (.string ((aa_ l0 x7_1).f1))).setCell ⟨gb102, 2, none⟩ (.string ((aa_ l0 x7_1).f2))).heap[gb102]? = some (.cells #[.string ((aa_ l0 x7_1).f0), .string ((aa_ l0 x7_1).f1), .string ((aa_ l0 x7_1).f2)] 43 (0, 0))) := ⟨by exact kj3_2 (kj3_1 (kj3_0 (kz BK102.out)))⟩
   have n1_ : Aside0 (Below w.heap.size w (((w13.setCell ⟨gb102, 0, none⟩ (.string ((aa_ l0 x7_1).f0))).setCell ⟨gb102, 1, none⟩ (.string ((aa_ l0 x7_1).f1))).setCell ⟨gb102, 2, none⟩ (.string ((aa_ l0 x7_1).f2)))) := ⟨bq⟩
   (try clear BK102)
   (try clear HB)
   generalize (((w13.setCell ⟨gb102, 0, none⟩ (.string ((aa_ l0 x7_1).f0))).setCell ⟨gb102, 1, none⟩ (.string ((aa_ l0 x7_1).f1))).setCell ⟨gb102, 2, none⟩ (.string ((aa_ l0 x7_1).f2))) = w15 at n0_ n1_ ⊢
   have BK102 := n0_
   have HB := n1_
   clear n0_ n1_
   have n0_ := Aside0.mk (aX_ BK102.out)
   have n1_ := Aside0.mk (bD_ HB.out)
   clear BK102
   clear HB
   have BK102 := n0_
   have HB := n1_
   clear n0_ n1_
   have p104 : 0 ≤ ((ji8) : Int) := of_decide_eq_true (by assumption)
   have q104 : (ji8) < (l0.length : Int) := of_decide_eq_true (by assumption)
   obtain ⟨ad104, e104, hx104_0, hx104_1, hx104_2⟩ := br_ HR0.out (ji8) p104 q104
   have hw104_2 := hx104_2
   have hw104_1 := hx104_1
   have hw104_0 := hx104_0
   obtain rfl : ad101 = ad104 := (by injection e104)
   replace hx104_0 := bu_ HB.out hx104_0
   replace hx104_1 := bu_ HB.out hx104_1
   replace hx104_2 := bu_ HB.out hx104_2
   replace p104 := eq_true p104
   replace q104 := eq_true q104
   refine cW_ (n := 17) (S := fun w' => w'.cell? ⟨gb102, 0, none⟩ = some (.string ((aa_ l0 x7_1).f0)) ∧ w'.cell? ⟨gb102, 1, none⟩ = some (.string ((aa_ l0 x7_1).f1)) ∧ w'.cell? ⟨gb102, 2, none⟩ = some (.string ((aa_ l0 x7_1).f2)) ∧ w'.cell? (ad101.add (((ji8)).toNat * 3)) = some (.string ((aa_ l0 (ji8)).f0)) ∧ w'.cell? ⟨(ad101.add (((ji8)).toNat * 3)).block, (ad101.add (((ji8)).toNat * 3)).off + 1, none⟩ = some (.string ((aa_ l0 (ji8)).f1)) ∧ w'.cell? ⟨(ad101.add (((ji8)).toNat * 3)).block, (ad101.add (((ji8)).toNat * 3)).off + 2, none⟩ = some (.string ((aa_ l0 (ji8)).f2))) (ds := []) #[f_,f_,f_,f_,f_,f_,f_,f_,f_,f_,f_,f_,f_,f_,f_,f_,f_] (by kernel_rfl) rfl rfl ⟨(ar_ BK102.out 0).trans rfl, (ar_ BK102.out 1).trans rfl, (ar_ BK102.out 2).trans rfl, (bv_ HB.out hw104_0), (bv_ HB.out hw104_1), (bv_ HB.out hw104_2)⟩ (fun hHeld => ?_); refine ce_ as_.tab4 as_.bits4 (fun HT_ HW_ => ?_)
   generalize w15.drew = w16 at BK102 HB hx104_0 hx104_1 hx104_2 hHeld ⊢
   refine tk 0 12 #[t_,f_,f_,f_,f_,f_,f_,f_,f_,f_,f_,f_,f_,f_,f_,f_,f_] HT_ HW_ hHeld ?_ (hv := by rintro w' ⟨s0, s1, s2, s3, s4, s5⟩; go_simp; with_reducible rfl)
   refine one_ (i := 1) (N := some 13) #[t_,t_,f_,f_,f_,f_,f_,f_,f_,f_,f_,f_,f_,f_,f_,f_,f_] rfl rfl (bZ_ HT_.out (by kernel_rfl)) (by decide) (fun K hK => ?_)
   (first | refine goes_ Tryd.func53 (by kernel_rfl) rfl #[.agg #[.string ((aa_ l0 x7_1).f0), .string ((aa_ l0 x7_1).f1), .string ((aa_ l0 x7_1).f2)]] (by rfl) rfl rfl (by first | rfl | (simp only [lma_, lmc_, lmn_]; first | done | rfl)) ?_ | refine RPW.cj_ Tryd.func53 (by kernel_rfl) rfl #[.agg #[.string ((aa_ l0 x7_1).f0), .string ((aa_ l0 x7_1).f1), .string ((aa_ l0 x7_1).f2)]] (by rfl) rfl rfl rfl (by first | rfl | (simp only [lma_, lmc_, lmn_]; first | done | rfl)) ?_ | refine RPW.ci_ Tryd.func53 (by kernel_rfl) rfl #[.agg #[.string ((aa_ l0 x7_1).f0), .string ((aa_ l0 x7_1).f1), .string ((aa_ l0 x7_1).f2)]] (by rfl) rfl rfl rfl (by first | rfl | (simp only [lma_, lmc_, lmn_]; first | done | rfl)) ?_)
   with_reducible refine (aT_.calls k1 ((aa_ l0 x7_1).f0) ((aa_ l0 x7_1).f1) ((aa_ l0 x7_1).f2) true _ A5.out).mono ?_
   rintro e w17 ⟨rfl, hb⟩
   refine ⟨_, rfl, ?_⟩
   have n0_ := Aside0.mk (az_ (kz BK102.out) hb)
   have n1_ := Aside0.mk (ah_ (bq) hb)
   clear BK102
   clear HB
   have BK102 := n0_
   have HB := n1_
   clear n0_ n1_
   (try clear hb)
   refine hK.out _ _ ⟨(ar_ BK102.out 0).trans rfl, (ar_ BK102.out 1).trans rfl, (ar_ BK102.out 2).trans rfl, (bv_ HB.out hw104_0), (bv_ HB.out hw104_1), (bv_ HB.out hw104_2)⟩ (fun hHeld => ?_)
   clear hK K
   refine norm_ (a' := ?_) ?_ ?_
   rotate_left
   ·show Act.put _ (some 13) _ = _
    simp only [Act.put, lsa_, ls0_, ls1_, i64_w, i32_w]
    rfl
   refine pu 2 14 #[t_,t_,t_,f_,f_,f_,f_,f_,f_,f_,f_,f_,f_,f_,f_,f_,f_] HT_ ?_
   refine pu 3 15 #[t_,t_,t_,t_,f_,f_,f_,f_,f_,f_,f_,f_,f_,f_,f_,f_,f_] HT_ ?_
   refine pu 4 16 #[t_,t_,t_,t_,t_,f_,f_,f_,f_,f_,f_,f_,f_,f_,f_,f_,f_] HT_ ?_
   refine pu 5 17 #[t_,t_,t_,t_,t_,t_,f_,f_,f_,f_,f_,f_,f_,f_,f_,f_,f_] HT_ ?_
   refine pu 6 18 #[t_,t_,t_,t_,t_,t_,t_,f_,f_,f_,f_,f_,f_,f_,f_,f_,f_] HT_ ?_
   refine pu 7 19 #[t_,t_,t_,t_,t_,t_,t_,t_,f_,f_,f_,f_,f_,f_,f_,f_,f_] HT_ ?_
   refine pu 8 20 #[t_,t_,t_,t_,t_,t_,t_,t_,t_,f_,f_,f_,f_,f_,f_,f_,f_] HT_ ?_
   refine pu 9 21 #[t_,t_,t_,t_,t_,t_,t_,t_,t_,t_,f_,f_,f_,f_,f_,f_,f_] HT_ ?_
   refine pu 10 22 #[t_,t_,t_,t_,t_,t_,t_,t_,t_,t_,t_,f_,f_,f_,f_,f_,f_] HT_ ?_
   refine tk 11 23 #[t_,t_,t_,t_,t_,t_,t_,t_,t_,t_,t_,t_,f_,f_,f_,f_,f_] HT_ HW_ hHeld ?_ (hv := by rintro w' ⟨s0, s1, s2, s3, s4, s5⟩; go_simp; with_reducible rfl)
   refine tk 12 24 #[t_,t_,t_,t_,t_,t_,t_,t_,t_,t_,t_,t_,t_,f_,f_,f_,f_] HT_ HW_ hHeld ?_ (hv := by rintro w' ⟨s0, s1, s2, s3, s4, s5⟩; go_simp; with_reducible rfl)
   refine one_ (i := 13) (N := some 25) #[t_,t_,t_,t_,t_,t_,t_,t_,t_,t_,t_,t_,t_,t_,f_,f_,f_] rfl rfl (bZ_ HT_.out (by kernel_rfl)) (by decide) (fun K hK => ?_)
   (first | refine goes_ Tryd.func36 (by kernel_rfl) rfl #[.agg #[.string ((aa_ l0 (ji8)).f0), .string ((aa_ l0 (ji8)).f1), .string ((aa_ l0 (ji8)).f2)], .agg #[.string ((aa_ l0 x7_1).f0), .string ((aa_ l0 x7_1).f1), .string ((aa_ l0 x7_1).f2)]] (by rfl) rfl rfl (by (try simp only [List.map_toArray, List.map_cons, List.map_nil]); first | done | (simp only [hji8]; rfl) | rfl | (simp only [List.length_drop, List.length_take]; rfl)) ?_ | refine RPW.cj_ Tryd.func36 (by kernel_rfl) rfl #[.agg #[.string ((aa_ l0 (ji8)).f0), .string ((aa_ l0 (ji8)).f1), .string ((aa_ l0 (ji8)).f2)], .agg #[.string ((aa_ l0 x7_1).f0), .string ((aa_ l0 x7_1).f1), .string ((aa_ l0 x7_1).f2)]] (by rfl) rfl rfl rfl (by (try simp only [List.map_toArray, List.map_cons, List.map_nil]); first | done | (simp only [hji8]; rfl) | rfl | (simp only [List.length_drop, List.length_take]; rfl)) ?_ | refine RPW.ci_ Tryd.func36 (by kernel_rfl) rfl #[.agg #[.string ((aa_ l0 (ji8)).f0), .string ((aa_ l0 (ji8)).f1), .string ((aa_ l0 (ji8)).f2)], .agg #[.string ((aa_ l0 x7_1).f0), .string ((aa_ l0 x7_1).f1), .string ((aa_ l0 x7_1).f2)]] (by rfl) rfl rfl rfl (by (try simp only [List.map_toArray, List.map_cons, List.map_nil]); first | done | (simp only [hji8]; rfl) | rfl | (simp only [List.length_drop, List.length_take]; rfl)) ?_)
   with_reducible refine (bi_.calls ((aa_ l0 (ji8)).f0) ((aa_ l0 (ji8)).f1) ((aa_ l0 (ji8)).f2) ((aa_ l0 x7_1).f0) ((aa_ l0 x7_1).f1) ((aa_ l0 x7_1).f2) t105 _ A11.out).mono ?_
   rintro e w18 ⟨rfl, hb⟩
   refine ⟨_, rfl, ?_⟩
   have n0_ := Aside0.mk (az_ (kz BK102.out) hb)
   have n1_ := Aside0.mk (ah_ (bq) hb)
   clear BK102
   clear HB
   have BK102 := n0_
   have HB := n1_
   clear n0_ n1_
   (try clear hb)
   refine hK.out _ _ ⟨(ar_ BK102.out 0).trans rfl, (ar_ BK102.out 1).trans rfl, (ar_ BK102.out 2).trans rfl, (bv_ HB.out hw104_0), (bv_ HB.out hw104_1), (bv_ HB.out hw104_2)⟩ (fun hHeld => ?_)
   clear hK K
   refine norm_ (a' := ?_) ?_ ?_
   rotate_left
   ·show Act.put _ (some 25) _ = _
    simp only [Act.put, lsa_, ls0_, ls1_, i64_w, i32_w]
    rfl
   refine pu 14 26 #[t_,t_,t_,t_,t_,t_,t_,t_,t_,t_,t_,t_,t_,t_,t_,f_,f_] HT_ ?_
   refine pu 15 27 #[t_,t_,t_,t_,t_,t_,t_,t_,t_,t_,t_,t_,t_,t_,t_,t_,f_] HT_ ?_
   refine pu 16 28 #[t_,t_,t_,t_,t_,t_,t_,t_,t_,t_,t_,t_,t_,t_,t_,t_,t_] HT_ ?_
   refine done_ (cO_ HT_.out (by kernel_rfl)) ?_
   go_upto_if 28 with (fail)
   have H := HC12.out
   clear HC12
   by_cases c19 : t105 ≥ 0
   rotate_left
   ·rw [if_neg c19] at H
    have c19b0 : decide (0 ≤ t105) = false := decide_eq_false c19
    clear c19
    (first | rw [c19b0] | (simp only [i64_w, i32_w]; rw [c19b0]) | (simp only [c19b1, Bool.not_true, Bool.not_false]) | (simp only [c19b0, Bool.not_true, Bool.not_false]) | skip)
    have H' := Aside0.mk H
    clear H
    go_wp2
    go_roundg k1
    case measure => have := HK1.out; omega
    case rel => exact ⟨(wrap64 (x7_1 + 1)), (by first | rfl | (simp; done) | (simp [*]; done)), H', ⟨by have := HK1.out; omega⟩, ⟨bq⟩⟩
   rw [if_pos c19] at H
   have c19b0 : decide (0 ≤ t105) = true := decide_eq_true c19
   clear c19
   (first | rw [c19b0] | (simp only [i64_w, i32_w]; rw [c19b0]) | (simp only [c19b1, Bool.not_true, Bool.not_false]) | (simp only [c19b0, Bool.not_true, Bool.not_false]) | skip)
   obtain rfl := Option.some.inj H
   go_wp2
   go_ret
   exact ⟨by first | rfl | (simp [aw_, av_] <;> rfl) | (simp only [← hji8]; first | rfl | (simp [aw_, av_] <;> rfl)) | (simp [*, aw_, av_] <;> rfl), bq⟩
def cp_.f (l0 : List S43) : Option (List S43) := if l0.length < 2932031007402 then some l0 else none
set_option maxHeartbeats 8000000 in
set_option maxRecDepth 100000 in
theorem cp_.calls (A0 : Option Addr) (c0 : Nat) (l0 : List S43) (r : List S43) (w : World) (hr0 : Kd.C k43 w A0 l0.length l0) (hc0 : l0.length ≤ c0) (h : cp_.f l0 = some r) :
  Calls Tryd.prog 62 #[.slice A0 l0.length c0] w fun e w' => ∃ v0_ : Value, e = .returned (v0_) ∧ Kd.R k43 43 w' w.heap.size (fun _ => True) v0_ r ∧ Below w.heap.size w w' := by
 have q22 : ∀ (w : World) (a : Option Addr) (n c n' c' : Nat), (binOp .eql 27 (.slice a n c) (.slice none n' c')).run Tryd.prog w = .ok (.bool a.isNone) w := fun w a n c n' c' => Lib.run_eql_slice_nil w _ _ a n c n' c' Tryd.underlying27
 unfold cp_.f at h
 split at h
 ·rename_i hl
  obtain rfl := Option.some.inj h
  have hl' := Aside0.mk hl
  clear hl h
  rcases A0 with _ | ⟨ab, ao, asp⟩
  ·have h0 : l0 = [] := by
    rcases l0 with _ | ⟨x, l⟩
    ·rfl
    ·obtain ⟨ad, h, _⟩ := hr0.2.2 (by simp)
     cases h
   subst h0
   go_enter Tryd.func62, Tryd.ntmps62
   go_wp2
   go_ret
   exact ⟨_, rfl, Kd.R_nil _ _ _ _ _, Below.refl _ _⟩
  ·have HR0 := Aside0.mk hr0
   clear hr0
   go_enter Tryd.func62, Tryd.ntmps62
   go_wp2_with (first | ((with_reducible refine aS_ (N := 5) rfl ?_); refine Kd.R_lit k43 _ 43 ?hg (N := 5) ?hd (xs := ([] : List S43)) (inner := []) (ok := fun _ => True) (okp := fun _ => True) ?hr ?hp (fun _ hk => hk) trivial (Below.refl _ _) (Nat.le_refl _) (by simp) ?_; (case hd => rfl); (case hg => rfl); (case hr => (go_simp; try rfl)); (case hp => exact (Reps.none _ _)); intro v1 w1 ho1 hb1 _ _; have HB1 := Aside0.mk hb1; have HO1 := Aside0.mk ho1; clear hb1 ho1) | ((with_reducible refine aY_ (b := .append) (xs := #[.tmp 5, .tmp 6]) rfl ?_); at_builtin; refine Kd.R_append_rows k43 (w0 := w) w.heap.size rfl (.tmp 5) (.tmp 6) 27 43 (.agg #[(.string ⟨#[]⟩), (.string ⟨#[]⟩), (.string ⟨#[]⟩)]) 48 rfl Tryd.underlying27 cs_ rfl (by decide) (by omega) v1 [] l0 _ _ _ (fun _ => True) (fun _ => False) rfl rfl HO1.out (Kd.bW_ HR0.out HB1.out) (fun _ _ h => h) (fun _ h => h.elim) (fun _ _ => trivial) HB1.out HB1.out.size (by have := hl'.out; simp only [List.length_nil]; omega) ?_; intro v2 w2 ho2 hb2 _ _; have HO2 := Aside0.mk ho2; have HB2 := Aside0.mk hb2; clear ho2 hb2))
   go_ret
   exact ⟨_, rfl, by simpa using HO2.out, HB2.out⟩
 ·cases h
def aB_.l0 : Nat → List (S43) → Int → Int → Int → ByteArray → ByteArray → ByteArray → Option (Int × Bool)
 | 0, _, _, _, _, _, _, _ => none
 | k + 1, x0, x8, x9, x10, x102000, x102001, x102002 => if x9 < x10 then (if 0 ≤ (wrap64 ((IntKind.u64.wrap (wrap64 (x9 + x10))) / 2)) then (if (wrap64 ((IntKind.u64.wrap (wrap64 (x9 + x10))) / 2)) < (x0.length : Int) then ((bi_.f ((aa_ x0 (wrap64 ((IntKind.u64.wrap (wrap64 (x9 + x10))) / 2))).f0) ((aa_ x0 (wrap64 ((IntKind.u64.wrap (wrap64 (x9 + x10))) / 2))).f1) ((aa_ x0 (wrap64 ((IntKind.u64.wrap (wrap64 (x9 + x10))) / 2))).f2) x102000 x102001 x102002).bind fun t103 => (if t103 < 0 then (aB_.l0 k x0 x8 (wrap64 ((wrap64 ((IntKind.u64.wrap (wrap64 (x9 + x10))) / 2)) + 1)) x10 x102000 x102001 x102002) else (aB_.l0 k x0 x8 x9 (wrap64 ((IntKind.u64.wrap (wrap64 (x9 + x10))) / 2)) x102000 x102001 x102002))) else (none)) else (none)) else (if x9 < x8 then (if 0 ≤ x9 then (if x9 < (x0.length : Int) then ((bi_.f ((aa_ x0 x9).f0) ((aa_ x0 x9).f1) ((aa_ x0 x9).f2) x102000 x102001 x102002).bind fun t105 => (some (x9, (t105 == 0)))) else (none)) else (none)) else (some (x9, false)))
def aB_.f (k : Nat) (l0 : List (S43)) (a1_0 : ByteArray) (a1_1 : ByteArray) (a1_2 : ByteArray)  : Option (Int × Bool) := aB_.l0 k l0 (l0.length : Int) 0 (l0.length : Int) a1_0 a1_1 a1_2
def aB_.T5 : Bool × List (List Nat × List Nat) := (true, [([], []), ([], []), ([], []), ([1, 2], [1, 2]), ([3], [3]), ([], []), ([0, 4, 5], [0, 4, 5]), ([6], [6])])
def aB_.B5 : List Nat := [0, 0, 0, 6, 14, 0, 63, 127]
theorem aB_.tab5 : rtab .any (opsOf Tryd.f63 5) = aB_.T5 := by kernel_rfl
theorem aB_.bits5 : cE_ aB_.T5.2 aB_.B5 = true := by kernel_rfl
def aB_.T8 : Bool × List (List Nat × List Nat) := (true, [([], []), ([], []), ([], []), ([1, 2], [1, 2]), ([3], [3]), ([4], [4]), ([4], [4]), ([4], [4]), ([6, 7, 4], [4, 6, 7]), ([8, 4], [4, 8]), ([4], [4]), ([5, 9, 10, 4, 4], [4, 5, 9, 10]), ([11, 4], [4, 11]), ([4, 12], [4, 12]), ([0, 11, 0], [0]), ([13, 14, 0, 1, 2, 3, 4, 5, 6, 7, 8, 9, 10, 11, 12, 13, 14], [13])])
def aB_.B8 : List Nat := [0, 0, 0, 6, 14, 30, 30, 30, 222, 478, 30, 2046, 4094, 8190, 4095, 32767]
theorem aB_.tab8 : rtab .any (opsOf Tryd.f63 8) = aB_.T8 := by kernel_rfl
theorem aB_.bits8 : cE_ aB_.T8.2 aB_.B8 = true := by kernel_rfl
set_option maxHeartbeats 8000000 in
set_option maxRecDepth 100000 in
theorem aB_.calls (k : Nat) (A0 : Option Addr) (c0 : Nat) (l0 : List (S43)) (a1_0 : ByteArray) (a1_1 : ByteArray) (a1_2 : ByteArray)  (r1 : Int) (r2 : Bool) (w : World) (hr0 : Kd.C k43 w A0 l0.length l0) (hc0 : l0.length ≤ c0) (h : aB_.f k l0 a1_0 a1_1 a1_2 = some (r1, r2)) :
  Calls Tryd.prog 63 #[.slice A0 l0.length c0, .agg #[.string a1_0, .string a1_1, .string a1_2], .func (.func 36) #[] #[]] w fun e w' => e = .returned (.tuple #[.int .i64 r1, .bool r2]) ∧ Below w.heap.size w w' := by
 have hu43 := Tryd.underlying43
 have HR0 := Aside0.mk hr0
 have HC0 := Aside0.mk hc0
 clear hr0 hc0
 have HB := Aside0.mk (Below.refl w.heap.size w)
 have H : (aB_.l0 k l0 (l0.length : Int) 0 (l0.length : Int) a1_0 a1_1 a1_2) = some (r1, r2) := h
 clear h
 have H' := Aside0.mk H
 clear H
 go_enter Tryd.func63, Tryd.ntmps63
 go_wp2_with (first | ((with_reducible refine aS_ (N := 4) rfl ?_); refine bB_ ?hg (N := 4) ?hd (cs := #[.string a1_0, .string a1_1, .string a1_2]) (t := 43) ?hr ?_; (case hd => rfl); (case hg => rfl); (case hr => (go_simp; try rfl)); intro gb101 hg w4 hbox hb; have BK101 := Aside0.mk (hbox); have GW101 := Aside0.mk ((by rw [hg]; exact (ak_ (bz HB.out)) : w.heap.size ≤ gb101)); have GE101 := GW101; replace HB := Aside0.mk (ah_ (bz HB.out) hb); clear hb hbox hg))
 (try simp only [Act.put, lsa_, ls0_, ls1_])
 go_loopg [9, 10] k (fun kq v9 v10 w' => ∃ (x9_1 : Int) (x10_1 : Int), v9 = .int .i64 x9_1 ∧ v10 = .int .i64 x10_1 ∧ Aside0 (aB_.l0 kq l0 (l0.length : Int) x9_1 x10_1 a1_0 a1_1 a1_2 = some (r1, r2)) ∧ Aside0 (kq ≤ k) ∧ Aside0 (w'.heap[gb101]? = some (.cells #[.string a1_0, .string a1_1, .string a1_2] 43 (0, 0))) ∧ Aside0 (Below w.heap.size w w'))
 case atStart => exact ⟨(0), ((l0.length : Int)), (by first | rfl | (simp; done) | (simp [*]; done)), (by first | rfl | (simp; done) | (simp [*]; done)), H', ⟨Nat.le_refl _⟩, ⟨by (with_reducible repeat (first | refine bj_ ?_ _ | refine aX_ ?_ | refine aU_ ?_ _)); exact BK101.out⟩, ⟨bq⟩⟩
 case round =>
  clear H'
  obtain ⟨x9_1, x10_1, rfl, rfl, HA, HK1, BK101, HB⟩ := hrel
  cases gk with
  | zero => exact absurd HA.out (by simp [aB_.l0])
  | succ k1 =>
   have H := HA.out
   clear HA
   simp only [aB_.l0] at H
   by_cases c5 : x9_1 < x10_1
   rotate_left
   ·rw [if_neg c5] at H
    have c5b0 : decide (x9_1 < x10_1) = false := decide_eq_false c5
    clear c5
    by_cases c14 : x9_1 < (l0.length : Int)
    rotate_left
    ·rw [if_neg c14] at H
     have c14b0 : decide (x9_1 < (l0.length : Int)) = false := decide_eq_false c14
     clear c14
     simp only [Option.some.injEq, Prod.mk.injEq] at H
     obtain ⟨rfl, rfl⟩ := H
     try go_wp2
     have n0_ := Aside0.mk (aX_ BK101.out)
     have n1_ := Aside0.mk (bD_ HB.out)
     clear BK101
     clear HB
     have BK101 := n0_
     have HB := n1_
     clear n0_ n1_
     refine cW_ (n := 16) (S := fun w' => True) (ds := []) #[f_,f_,f_,f_,f_,f_,f_,f_,f_,f_,f_,f_,f_,f_,f_,f_] (by kernel_rfl) rfl rfl trivial (fun hHeld => ?_); refine ce_ aB_.tab8 aB_.bits8 (fun HT_ HW_ => ?_)
     generalize wr.drew = w20 at BK101 HB hHeld ⊢
     refine pu 0 35 #[t_,f_,f_,f_,f_,f_,f_,f_,f_,f_,f_,f_,f_,f_,f_,f_] HT_ ?_
     refine pu 1 36 #[t_,t_,f_,f_,f_,f_,f_,f_,f_,f_,f_,f_,f_,f_,f_,f_] HT_ ?_
     refine pu 2 37 #[t_,t_,t_,f_,f_,f_,f_,f_,f_,f_,f_,f_,f_,f_,f_,f_] HT_ ?_
     refine pu 3 38 #[t_,t_,t_,t_,f_,f_,f_,f_,f_,f_,f_,f_,f_,f_,f_,f_] HT_ ?_
     refine pu 4 39 #[t_,t_,t_,t_,t_,f_,f_,f_,f_,f_,f_,f_,f_,f_,f_,f_] HT_ ?_
     refine pn 5 40 #[t_,t_,t_,t_,t_,t_,f_,f_,f_,f_,f_,f_,f_,f_,f_,f_] HT_ ?_
     refine pn 6 41 #[t_,t_,t_,t_,t_,t_,t_,f_,f_,f_,f_,f_,f_,f_,f_,f_] HT_ ?_
     refine pn 7 42 #[t_,t_,t_,t_,t_,t_,t_,t_,f_,f_,f_,f_,f_,f_,f_,f_] HT_ ?_
     refine pn 8 43 #[t_,t_,t_,t_,t_,t_,t_,t_,t_,f_,f_,f_,f_,f_,f_,f_] HT_ ?_
     refine pn 9 44 #[t_,t_,t_,t_,t_,t_,t_,t_,t_,t_,f_,f_,f_,f_,f_,f_] HT_ ?_
     refine pn 10 45 #[t_,t_,t_,t_,t_,t_,t_,t_,t_,t_,t_,f_,f_,f_,f_,f_] HT_ ?_
     refine pn 11 46 #[t_,t_,t_,t_,t_,t_,t_,t_,t_,t_,t_,t_,f_,f_,f_,f_] HT_ ?_
     refine pn 12 47 #[t_,t_,t_,t_,t_,t_,t_,t_,t_,t_,t_,t_,t_,f_,f_,f_] HT_ ?_
     refine pu 13 48 #[t_,t_,t_,t_,t_,t_,t_,t_,t_,t_,t_,t_,t_,t_,f_,f_] HT_ ?_
     refine pu 14 6 #[t_,t_,t_,t_,t_,t_,t_,t_,t_,t_,t_,t_,t_,t_,t_,f_] HT_ ?_
     refine pu 15 7 #[t_,t_,t_,t_,t_,t_,t_,t_,t_,t_,t_,t_,t_,t_,t_,t_] HT_ ?_
     refine done_ (cO_ HT_.out (by kernel_rfl)) ?_
     try go_wp2
     go_ret2
     exact ⟨by first | rfl | (simp [*, aw_, av_] <;> rfl), bq⟩
    rw [if_pos c14] at H
    have c14b0 : decide (x9_1 < (l0.length : Int)) = true := decide_eq_true c14
    clear c14
    by_cases c15 : 0 ≤ x9_1
    rotate_left
    ·rw [if_neg c15] at H
     exact absurd H (by simp)
    rw [if_pos c15] at H
    have c15b0 : decide (0 ≤ x9_1) = true := decide_eq_true c15
    clear c15
    by_cases c16 : x9_1 < (l0.length : Int)
    rotate_left
    ·rw [if_neg c16] at H
     exact absurd H (by simp)
    rw [if_pos c16] at H
    have c16b0 : decide (x9_1 < (l0.length : Int)) = true := decide_eq_true c16
    clear c16
    replace H := Option.bind_eq_some_iff.mp H
    obtain ⟨t105, A170, H⟩ := H
    (try dsimp only at H)
    have A17 := Aside0.mk A170
    clear A170
    simp only [Option.some.injEq, Prod.mk.injEq] at H
    obtain ⟨rfl, rfl⟩ := H
    try go_wp2
    have n0_ := Aside0.mk (aX_ BK101.out)
    have n1_ := Aside0.mk (bD_ HB.out)
    clear BK101
    clear HB
    have BK101 := n0_
    have HB := n1_
    clear n0_ n1_
    have p104 : 0 ≤ (x9_1 : Int) := of_decide_eq_true (by assumption)
    have q104 : x9_1 < (l0.length : Int) := of_decide_eq_true (by assumption)
    obtain ⟨ad104, e104, hx104_0, hx104_1, hx104_2⟩ := br_ HR0.out x9_1 p104 q104
    have hw104_2 := hx104_2
    have hw104_1 := hx104_1
    have hw104_0 := hx104_0
    cases e104
    replace hx104_0 := bu_ HB.out hx104_0
    replace hx104_1 := bu_ HB.out hx104_1
    replace hx104_2 := bu_ HB.out hx104_2
    replace p104 := eq_true p104
    replace q104 := eq_true q104
    refine cW_ (n := 16) (S := fun w' => w'.cell? ⟨gb101, 0, none⟩ = some (.string a1_0) ∧ w'.cell? ⟨gb101, 1, none⟩ = some (.string a1_1) ∧ w'.cell? ⟨gb101, 2, none⟩ = some (.string a1_2) ∧ w'.cell? (ad104.add ((x9_1).toNat * 3)) = some (.string ((aa_ l0 x9_1).f0)) ∧ w'.cell? ⟨(ad104.add ((x9_1).toNat * 3)).block, (ad104.add ((x9_1).toNat * 3)).off + 1, none⟩ = some (.string ((aa_ l0 x9_1).f1)) ∧ w'.cell? ⟨(ad104.add ((x9_1).toNat * 3)).block, (ad104.add ((x9_1).toNat * 3)).off + 2, none⟩ = some (.string ((aa_ l0 x9_1).f2))) (ds := []) #[f_,f_,f_,f_,f_,f_,f_,f_,f_,f_,f_,f_,f_,f_,f_,f_] (by kernel_rfl) rfl rfl ⟨(ar_ BK101.out 0).trans rfl, (ar_ BK101.out 1).trans rfl, (ar_ BK101.out 2).trans rfl, (bv_ HB.out hw104_0), (bv_ HB.out hw104_1), (bv_ HB.out hw104_2)⟩ (fun hHeld => ?_); refine ce_ aB_.tab8 aB_.bits8 (fun HT_ HW_ => ?_)
    generalize wr.drew = w18 at BK101 HB hx104_0 hx104_1 hx104_2 hHeld ⊢
    refine pu 0 35 #[t_,f_,f_,f_,f_,f_,f_,f_,f_,f_,f_,f_,f_,f_,f_,f_] HT_ ?_
    refine pu 1 36 #[t_,t_,f_,f_,f_,f_,f_,f_,f_,f_,f_,f_,f_,f_,f_,f_] HT_ ?_
    refine pu 2 37 #[t_,t_,t_,f_,f_,f_,f_,f_,f_,f_,f_,f_,f_,f_,f_,f_] HT_ ?_
    refine pu 3 38 #[t_,t_,t_,t_,f_,f_,f_,f_,f_,f_,f_,f_,f_,f_,f_,f_] HT_ ?_
    refine pu 4 39 #[t_,t_,t_,t_,t_,f_,f_,f_,f_,f_,f_,f_,f_,f_,f_,f_] HT_ ?_
    refine pu 5 40 #[t_,t_,t_,t_,t_,t_,f_,f_,f_,f_,f_,f_,f_,f_,f_,f_] HT_ ?_
    refine pu 6 41 #[t_,t_,t_,t_,t_,t_,t_,f_,f_,f_,f_,f_,f_,f_,f_,f_] HT_ ?_
    refine pu 7 42 #[t_,t_,t_,t_,t_,t_,t_,t_,f_,f_,f_,f_,f_,f_,f_,f_] HT_ ?_
    refine pu 8 43 #[t_,t_,t_,t_,t_,t_,t_,t_,t_,f_,f_,f_,f_,f_,f_,f_] HT_ ?_
    refine tk 9 44 #[t_,t_,t_,t_,t_,t_,t_,t_,t_,t_,f_,f_,f_,f_,f_,f_] HT_ HW_ hHeld ?_ (hv := by rintro w' ⟨s0, s1, s2, s3, s4, s5⟩; go_simp; with_reducible rfl)
    refine tk 10 45 #[t_,t_,t_,t_,t_,t_,t_,t_,t_,t_,t_,f_,f_,f_,f_,f_] HT_ HW_ hHeld ?_ (hv := by rintro w' ⟨s0, s1, s2, s3, s4, s5⟩; go_simp; with_reducible rfl)
    refine one_ (i := 11) (N := some 46) #[t_,t_,t_,t_,t_,t_,t_,t_,t_,t_,t_,t_,f_,f_,f_,f_] rfl rfl (bZ_ HT_.out (by kernel_rfl)) (by decide) (fun K hK => ?_)
    (first | refine goes_ Tryd.func36 (by kernel_rfl) rfl #[.agg #[.string ((aa_ l0 x9_1).f0), .string ((aa_ l0 x9_1).f1), .string ((aa_ l0 x9_1).f2)], .agg #[.string a1_0, .string a1_1, .string a1_2]] (by rfl) rfl rfl (by first | rfl | (simp only [lma_, lmc_, lmn_]; first | done | rfl)) ?_ | refine RPW.cj_ Tryd.func36 (by kernel_rfl) rfl #[.agg #[.string ((aa_ l0 x9_1).f0), .string ((aa_ l0 x9_1).f1), .string ((aa_ l0 x9_1).f2)], .agg #[.string a1_0, .string a1_1, .string a1_2]] (by rfl) rfl rfl rfl (by first | rfl | (simp only [lma_, lmc_, lmn_]; first | done | rfl)) ?_ | refine RPW.ci_ Tryd.func36 (by kernel_rfl) rfl #[.agg #[.string ((aa_ l0 x9_1).f0), .string ((aa_ l0 x9_1).f1), .string ((aa_ l0 x9_1).f2)], .agg #[.string a1_0, .string a1_1, .string a1_2]] (by rfl) rfl rfl rfl (by first | rfl | (simp only [lma_, lmc_, lmn_]; first | done | rfl)) ?_)
    with_reducible refine (bi_.calls ((aa_ l0 x9_1).f0) ((aa_ l0 x9_1).f1) ((aa_ l0 x9_1).f2) a1_0 a1_1 a1_2 t105 _ A17.out).mono ?_
    rintro e w19 ⟨rfl, hb⟩
    refine ⟨_, rfl, ?_⟩
    have n0_ := Aside0.mk (az_ (kz BK101.out) hb)
    have n1_ := Aside0.mk (ah_ (bq) hb)
    clear BK101
    clear HB
    have BK101 := n0_
    have HB := n1_
    clear n0_ n1_
    (try clear hb)
    refine hK.out _ _ ⟨(ar_ BK101.out 0).trans rfl, (ar_ BK101.out 1).trans rfl, (ar_ BK101.out 2).trans rfl, (bv_ HB.out hw104_0), (bv_ HB.out hw104_1), (bv_ HB.out hw104_2)⟩ (fun hHeld => ?_)
    clear hK K
    refine norm_ (a' := ?_) ?_ ?_
    rotate_left
    ·show Act.put _ (some 46) _ = _
     simp only [Act.put, lsa_, ls0_, ls1_, i64_w, i32_w]
     rfl
    refine pu 12 47 #[t_,t_,t_,t_,t_,t_,t_,t_,t_,t_,t_,t_,t_,f_,f_,f_] HT_ ?_
    refine pu 13 48 #[t_,t_,t_,t_,t_,t_,t_,t_,t_,t_,t_,t_,t_,t_,f_,f_] HT_ ?_
    refine pu 14 6 #[t_,t_,t_,t_,t_,t_,t_,t_,t_,t_,t_,t_,t_,t_,t_,f_] HT_ ?_
    refine pu 15 7 #[t_,t_,t_,t_,t_,t_,t_,t_,t_,t_,t_,t_,t_,t_,t_,t_] HT_ ?_
    refine done_ (cO_ HT_.out (by kernel_rfl)) ?_
    try go_wp2
    go_ret2
    exact ⟨by first | rfl | (simp [*, aw_, av_] <;> rfl), bq⟩
   rw [if_pos c5] at H
   have c5b0 : decide (x9_1 < x10_1) = true := decide_eq_true c5
   clear c5
   obtain ⟨ji6, hji6⟩ : ∃ j_ : Int, (wrap64 ((IntKind.u64.wrap (wrap64 (x9_1 + x10_1))) / 2)) = j_ := ⟨_, rfl⟩
   replace H : (if 0 ≤ (ji6) then (if (ji6) < (l0.length : Int) then ((bi_.f ((aa_ l0 (ji6)).f0) ((aa_ l0 (ji6)).f1) ((aa_ l0 (ji6)).f2) a1_0 a1_1 a1_2).bind fun t103 => (if t103 < 0 then (aB_.l0 k1 l0 (l0.length : Int) (wrap64 ((ji6) + 1)) x10_1 a1_0 a1_1 a1_2) else (aB_.l0 k1 l0 (l0.length : Int) x9_1 ji6 a1_0 a1_1 a1_2))) else (none)) else (none)) = some (r1, r2) := by first | (rw [hji6] at H; exact H) | (simp only [hji6] at H ⊢; exact H)
   have hji6w : (IntKind.i64.wrap ((IntKind.u64.wrap (wrap64 (x9_1 + x10_1))) / 2)) = ji6 := (i64_w _).trans hji6
   by_cases c7 : 0 ≤ (ji6)
   rotate_left
   ·rw [if_neg c7] at H
    exact absurd H (by simp)
   rw [if_pos c7] at H
   have c7b0 : decide (0 ≤ (ji6)) = true := decide_eq_true c7
   clear c7
   by_cases c8 : (ji6) < (l0.length : Int)
   rotate_left
   ·rw [if_neg c8] at H
    exact absurd H (by simp)
   rw [if_pos c8] at H
   have c8b0 : decide ((ji6) < (l0.length : Int)) = true := decide_eq_true c8
   clear c8
   replace H := Option.bind_eq_some_iff.mp H
   obtain ⟨t103, A90, H⟩ := H
   (try dsimp only at H)
   have A9 := Aside0.mk A90
   clear A90
   have HC10 := Aside0.mk H
   clear H
   try go_wp2
   have n0_ := Aside0.mk (aX_ BK101.out)
   have n1_ := Aside0.mk (bD_ HB.out)
   clear BK101
   clear HB
   have BK101 := n0_
   have HB := n1_
   clear n0_ n1_
   have p102 : 0 ≤ ((ji6) : Int) := of_decide_eq_true (by assumption)
   have q102 : (ji6) < (l0.length : Int) := of_decide_eq_true (by assumption)
   obtain ⟨ad102, e102, hx102_0, hx102_1, hx102_2⟩ := br_ HR0.out (ji6) p102 q102
   have hw102_2 := hx102_2
   have hw102_1 := hx102_1
   have hw102_0 := hx102_0
   cases e102
   replace hx102_0 := bu_ HB.out hx102_0
   replace hx102_1 := bu_ HB.out hx102_1
   replace hx102_2 := bu_ HB.out hx102_2
   replace p102 := eq_true p102
   replace q102 := eq_true q102
   refine cW_ (n := 8) (S := fun w' => w'.cell? ⟨gb101, 0, none⟩ = some (.string a1_0) ∧ w'.cell? ⟨gb101, 1, none⟩ = some (.string a1_1) ∧ w'.cell? ⟨gb101, 2, none⟩ = some (.string a1_2) ∧ w'.cell? (ad102.add (((ji6)).toNat * 3)) = some (.string ((aa_ l0 (ji6)).f0)) ∧ w'.cell? ⟨(ad102.add (((ji6)).toNat * 3)).block, (ad102.add (((ji6)).toNat * 3)).off + 1, none⟩ = some (.string ((aa_ l0 (ji6)).f1)) ∧ w'.cell? ⟨(ad102.add (((ji6)).toNat * 3)).block, (ad102.add (((ji6)).toNat * 3)).off + 2, none⟩ = some (.string ((aa_ l0 (ji6)).f2))) (ds := []) #[f_,f_,f_,f_,f_,f_,f_,f_] (by kernel_rfl) rfl rfl ⟨(ar_ BK101.out 0).trans rfl, (ar_ BK101.out 1).trans rfl, (ar_ BK101.out 2).trans rfl, (bv_ HB.out hw102_0), (bv_ HB.out hw102_1), (bv_ HB.out hw102_2)⟩ (fun hHeld => ?_); refine ce_ aB_.tab5 aB_.bits5 (fun HT_ HW_ => ?_)
   generalize wr.drew = w11 at BK101 HB hx102_0 hx102_1 hx102_2 hHeld ⊢
   refine pu 0 24 #[t_,f_,f_,f_,f_,f_,f_,f_] HT_ ?_
   refine pu 1 25 #[t_,t_,f_,f_,f_,f_,f_,f_] HT_ ?_
   refine pu 2 26 #[t_,t_,t_,f_,f_,f_,f_,f_] HT_ ?_
   refine pu 3 27 #[t_,t_,t_,t_,f_,f_,f_,f_] HT_ ?_
   refine tk 4 28 #[t_,t_,t_,t_,t_,f_,f_,f_] HT_ HW_ hHeld ?_ (hv := by rintro w' ⟨s0, s1, s2, s3, s4, s5⟩; go_simp; with_reducible rfl)
   refine tk 5 29 #[t_,t_,t_,t_,t_,t_,f_,f_] HT_ HW_ hHeld ?_ (hv := by rintro w' ⟨s0, s1, s2, s3, s4, s5⟩; go_simp; with_reducible rfl)
   refine one_ (i := 6) (N := some 30) #[t_,t_,t_,t_,t_,t_,t_,f_] rfl rfl (bZ_ HT_.out (by kernel_rfl)) (by decide) (fun K hK => ?_)
   (first | refine goes_ Tryd.func36 (by kernel_rfl) rfl #[.agg #[.string ((aa_ l0 (ji6)).f0), .string ((aa_ l0 (ji6)).f1), .string ((aa_ l0 (ji6)).f2)], .agg #[.string a1_0, .string a1_1, .string a1_2]] (by rfl) rfl rfl (by (try simp only [List.map_toArray, List.map_cons, List.map_nil]); first | done | (simp only [hji6]; rfl) | rfl | (simp only [List.length_drop, List.length_take]; rfl)) ?_ | refine RPW.cj_ Tryd.func36 (by kernel_rfl) rfl #[.agg #[.string ((aa_ l0 (ji6)).f0), .string ((aa_ l0 (ji6)).f1), .string ((aa_ l0 (ji6)).f2)], .agg #[.string a1_0, .string a1_1, .string a1_2]] (by rfl) rfl rfl rfl (by (try simp only [List.map_toArray, List.map_cons, List.map_nil]); first | done | (simp only [hji6]; rfl) | rfl | (simp only [List.length_drop, List.length_take]; rfl)) ?_ | refine RPW.ci_ Tryd.func36 (by kernel_rfl) rfl #[.agg #[.string ((aa_ l0 (ji6)).f0), .string ((aa_ l0 (ji6)).f1), .string ((aa_ l0 (ji6)).f2)], .agg #[.string a1_0, .string a1_1, .string a1_2]] (by rfl) rfl rfl rfl (by (try simp only [List.map_toArray, List.map_cons, List.map_nil]); first | done | (simp only [hji6]; rfl) | rfl | (simp only [List.length_drop, List.length_take]; rfl)) ?_)
   with_reducible refine (bi_.calls ((aa_ l0 (ji6)).f0) ((aa_ l0 (ji6)).f1) ((aa_ l0 (ji6)).f2) a1_0 a1_1 a1_2 t103 _ A9.out).mono ?_
   rintro e w12 ⟨rfl, hb⟩
   refine ⟨_, rfl, ?_⟩
   have n0_ := Aside0.mk (az_ (kz BK101.out) hb)
   have n1_ := Aside0.mk (ah_ (bq) hb)
   clear BK101
   clear HB
   have BK101 := n0_
   have HB := n1_
   clear n0_ n1_
   (try clear hb)
   refine hK.out _ _ ⟨(ar_ BK101.out 0).trans rfl, (ar_ BK101.out 1).trans rfl, (ar_ BK101.out 2).trans rfl, (bv_ HB.out hw102_0), (bv_ HB.out hw102_1), (bv_ HB.out hw102_2)⟩ (fun hHeld => ?_)
   clear hK K
   refine norm_ (a' := ?_) ?_ ?_
   rotate_left
   ·show Act.put _ (some 30) _ = _
    simp only [Act.put, lsa_, ls0_, ls1_, i64_w, i32_w]
    rfl
   refine pu 7 31 #[t_,t_,t_,t_,t_,t_,t_,t_] HT_ ?_
   refine done_ (cO_ HT_.out (by kernel_rfl)) ?_
   go_upto_if 31 with (fail)
   have H := HC10.out
   clear HC10
   by_cases c13 : t103 < 0
   rotate_left
   ·rw [if_neg c13] at H
    have c13b0 : decide (t103 < 0) = false := decide_eq_false c13
    clear c13
    (first | rw [c13b0] | (simp only [i64_w, i32_w]; rw [c13b0]) | (simp only [c13b1, Bool.not_true, Bool.not_false]) | (simp only [c13b0, Bool.not_true, Bool.not_false]) | skip)
    have H' := Aside0.mk H
    clear H
    go_wp2
    go_roundg k1
    case measure => have := HK1.out; omega
    case rel => exact ⟨(x9_1), (ji6), (by first | rfl | (simp; done) | (simp [*]; done)), (by first | rfl | (simp; done) | (simp only [← hji6] <;> (first | rfl | simp)) | (simp [*]; done)), H', ⟨by have := HK1.out; omega⟩, ⟨by (with_reducible repeat (first | refine bj_ ?_ _ | refine aX_ ?_ | refine aU_ ?_ _)); exact BK101.out⟩, ⟨bq⟩⟩
   rw [if_pos c13] at H
   have c13b0 : decide (t103 < 0) = true := decide_eq_true c13
   clear c13
   (first | rw [c13b0] | (simp only [i64_w, i32_w]; rw [c13b0]) | (simp only [c13b1, Bool.not_true, Bool.not_false]) | (simp only [c13b0, Bool.not_true, Bool.not_false]) | skip)
   have H' := Aside0.mk H
   clear H
   go_wp2
   go_roundg k1
   case measure => have := HK1.out; omega
   case rel => exact ⟨(wrap64 ((ji6) + 1)), (x10_1), (by first | rfl | (simp; done) | (simp only [← hji6] <;> (first | rfl | simp)) | (simp [*]; done)), (by first | rfl | (simp; done) | (simp [*]; done)), H', ⟨by have := HK1.out; omega⟩, ⟨by (with_reducible repeat (first | refine bj_ ?_ _ | refine aX_ ?_ | refine aU_ ?_ _)); exact BK101.out⟩, ⟨bq⟩⟩
end Go.Proofs.YtjebkmfljcanlaaDoor.Q
namespace Go.Proofs.YtjebkmfljcanlaaDoor.SLX
open Go.RowKit Go.Proofs.YtjebkmfljcanlaaDoorW.PrintWords Go.Proofs.YtjebkmfljcanlaaDoorW.PrintLast Go.Proofs.YtjebkmfljcanlaaDoorW.PrintMore
section
variable {P : Program} {α : Type}
def Flat (d : Kd α) : Prop := (∀ (W W' : World) (b b' : Nat) (ok ok' : Nat → Prop) x cs, d.M W b ok x cs → d.M W' b' ok' x cs) ∧ (∀ (W : World) (b : Nat) (ok : Nat → Prop) x cs, d.K W x cs → d.M W b ok x cs)
theorem R_open {d : Kd α} {e : Nat} {W : World} {base : Nat} {ok : Nat → Prop} {v : Value} {xs : List α} (h : d.R e W base ok v xs) :
  (v = .slice none 0 0 ∧ xs = []) ∨ ∃ g c cur okk, v = .slice (some ⟨g, 0, none⟩) xs.length c ∧ ok g ∧ base ≤ g ∧ W.heap[g]? = some (.cells cur e (0, 0)) ∧ xs.length ≤ c ∧ c ≤ maxLen ∧ cur.size = c * d.sz ∧ Reps (d.M W base okk) d.sz xs (cur.toList.take (xs.length * d.sz)) := by
 obtain ⟨hok, inner, hown, hr⟩ := h
 rcases hown.2 with ⟨hv, h0⟩ | ⟨g, cap, cur, rfl, hb, hh, h1, h2, h3, h4⟩
 ·exact .inl ⟨hv, List.eq_nil_of_length_eq_zero h0⟩
 ·exact .inr ⟨g, cap, cur, _, rfl, hok g (by simp [Value.ownBlock]), hb, hh, h1, h2, h3, by rw [h4]; exact hr⟩
theorem R_shut {d : Kd α} {e : Nat} {W : World} {base g c n : Nat} {ok : Nat → Prop} {xs : List α} {cur : Array Value} (hok : ok g) (hb : base ≤ g) (hh : W.heap[g]? = some (.cells cur e (0, 0))) (hn : n = xs.length) (h1 : n ≤ c) (h2 : c ≤ maxLen) (h3 : cur.size = c * d.sz)
  (hr : Reps (d.M W base (fun k => ok k ∧ some k ≠ (Value.slice (some ⟨g, 0, none⟩) n c).ownBlock)) d.sz xs (cur.toList.take (n * d.sz))) : d.R e W base ok (.slice (some ⟨g, 0, none⟩) n c) xs := by
 subst hn
 refine ⟨fun k hk => ?_, cur.toList.take (xs.length * d.sz), ⟨hr.1, .inr ⟨g, c, cur, rfl, hb, hh, h1, h2, h3, rfl⟩⟩, hr⟩
 have : g = k := by simpa [Value.ownBlock] using hk
 subst this
 exact hok
theorem reps_imp {R R' : α → List Value → Prop} {size : Nat} {xs : List α} {cs : List Value} (h : Reps R size xs cs) (hi : ∀ x c, R x c → R' x c) : Reps R' size xs cs := ⟨h.1, fun j p hj => hi _ _ (h.2 j p hj)⟩
theorem run_copy_k (w : World) (dT sT ty elem : TypeId) (sz g o dLen dCap : Nat) (a : Addr) (sLen sCap : Nat) (cur : Array Value) (t : TypeId) (cs : List Value)
  (hu : P.underlying dT = some (.slice elem)) (hs : (P.info? elem).map (·.size) = some sz)
  (hg : w.heap[g]? = some (.cells cur t (0, 0))) (hn : cs.length = Nat.min sLen dLen * sz)
  (hsrc : ∀ j v, cs[j]? = some v → w.cell? (a.add j) = some v) (hfit : o + cs.length ≤ cur.size) (h1 : ∀ v ∈ cs, v.oneCell' = true) :
  (Builtin.copy_ #[dT, sT] ty #[.slice (some ⟨g, o, none⟩) dLen dCap, .slice (some a) sLen sCap]).run P w =
   .ok (goInt (Nat.min sLen dLen)) (w.setRow g (cur.toList.take o ++ cs ++ cur.toList.drop (o + cs.length)).toArray) := by
 have hl := run_loadCells_list (P := P) w a cs hsrc
 have hst := run_storeCells_at P g o t cs 0 cur w hg (by simpa using hfit) h1
 cases hq : P.info? elem with
 | none => simp [hq] at hs
 | some i =>
  have hi : i.size = sz := by simpa [hq] using hs
  simp [Builtin.copy_, run_underlying hu, Builtin.lenOf, Builtin.firstCells, sizeOf, typeInfo, hq, hi, ← hn, hl, hst]
theorem zeroCells_size (z : Array Value) (n : Nat) : (Builtin.zeroCells z n).size = n * z.size := by simp [Builtin.zeroCells]
theorem setRow_grown (W : World) (g : Nat) (cs : Array Value) : W.grownBy (W.setRow g cs) (some g) :=
 ⟨rfl, rfl, rfl, by simp [World.setRow], fun k _ hk => setRow_other W g k cs (fun he => hk (by rw [he]))⟩
theorem kept_of_grown {w w' : World} {g : Nat} {S : Nat → Prop} (h : w.grownBy w' (some g)) (hg : S g) : Kept w w' S :=
 ⟨h.size, fun i hi hn => h.block i hi (fun he => hn (by injection he with he; rw [he]; exact hg))⟩
end
section
variable {P : Program} {ops : Array Oper} {o : Oper} {a : Act} {w : World} {K : Act → World → Prop} {Q : Exit → Act → World → Prop}
theorem step_copy_runS {E : Prop} (hg : o.guard = none) (d x : Operand) (dT sT : TypeId) (hop : o.op = Op.call { callee := Callee.builtin Builtin.copy, args := #[d, x], argTypes := #[dT, sT] })
  (v u : Value) (hd : a.eval d = v) (hx : a.eval x = u) {v' : Value} {w' : World} (hr : (Builtin.copy_ #[dT, sT] o.type #[v, u]).run P w = .ok v' w') (hK : K (a.put o.dst v') w') :
  if Region.wanted o (yielded ops a.tmps) = true then Oper.wp P o a w K Q else E := by
 have hw : Region.wanted o (yielded ops a.tmps) = true := by simp [Region.wanted, hg]
 rw [if_pos hw]
 unfold Oper.wp
 simp [execOp, hop, resolve, invoke, builtin, hd, hx, hr, Result.andThen]
 exact hK
theorem list_copy_runS {rest : List Oper} (hg : o.guard = none) (d x : Operand) (dT sT : TypeId) (hop : o.op = Op.call { callee := Callee.builtin Builtin.copy, args := #[d, x], argTypes := #[dT, sT] })
  (v u : Value) (hd : a.eval d = v) (hx : a.eval x = u) {v' : Value} {w' : World} (hr : (Builtin.copy_ #[dT, sT] o.type #[v, u]).run P w = .ok v' w') (h : wpList P ops Q rest (a.put o.dst v') w') : wpList P ops Q (o :: rest) a w :=
 wpList_plain hg fun _ hK => by
  unfold Oper.wp execOp
  simp only [hop, resolve, invoke, builtin, Sem.run_bind, Sem.run_pure, Result.andThen_ok, List.map_toArray, List.map_cons, List.map_nil, hd, hx, hr]
  exact hK _ _ h
theorem list_append_runS {rest : List Oper} (hg : o.guard = none) (d x : Operand) (dT sT : TypeId) (hop : o.op = Op.call { callee := Callee.builtin Builtin.append, args := #[d, x], argTypes := #[dT, sT] })
  (v u : Value) (hd : a.eval d = v) (hx : a.eval x = u) {v' : Value} {w' : World} (hr : (Builtin.append_ #[dT, sT] o.type #[v, u]).run P w = .ok v' w') (h : wpList P ops Q rest (a.put o.dst v') w') : wpList P ops Q (o :: rest) a w :=
 wpList_plain hg fun _ hK => by
  unfold Oper.wp execOp
  simp only [hop, resolve, invoke, builtin, Sem.run_bind, Sem.run_pure, Result.andThen_ok, List.map_toArray, List.map_cons, List.map_nil, hd, hx, hr]
  exact hK _ _ h
end
theorem ins_list {β : Type} (L cx D : List β) (p : Nat) (hl : p + cx.length + D.length ≤ L.length) :
  ((L.take p ++ cx ++ L.drop (p + cx.length)).take (p + cx.length) ++ D ++ (L.take p ++ cx ++ L.drop (p + cx.length)).drop (p + cx.length + D.length)).take (p + cx.length + D.length) = L.take p ++ cx ++ D ∧
  ((L.take p ++ cx ++ L.drop (p + cx.length)).take (p + cx.length) ++ D ++ (L.take p ++ cx ++ L.drop (p + cx.length)).drop (p + cx.length + D.length)).length = L.length := by
 have h1 : (L.take p ++ cx).length = p + cx.length := by simp; omega
 have h2 : (L.take p ++ cx ++ L.drop (p + cx.length)).take (p + cx.length) = L.take p ++ cx := List.take_left' h1
 rw [h2]
 constructor
 ·exact List.take_left' (by simp; omega)
 ·simp; omega
theorem shift_list {β : Type} (L cx D : List β) (p : Nat) (hl : p + cx.length + D.length ≤ L.length) :
  ((L.take (p + cx.length) ++ D ++ L.drop (p + cx.length + D.length)).take p ++ cx ++ (L.take (p + cx.length) ++ D ++ L.drop (p + cx.length + D.length)).drop (p + cx.length)).take (p + cx.length + D.length) = L.take p ++ cx ++ D ∧
  ((L.take (p + cx.length) ++ D ++ L.drop (p + cx.length + D.length)).take p ++ cx ++ (L.take (p + cx.length) ++ D ++ L.drop (p + cx.length + D.length)).drop (p + cx.length)).length = L.length := by
 have h1 : (L.take (p + cx.length)).length = p + cx.length := by simp; omega
 have h2 : (L.take (p + cx.length) ++ D ++ L.drop (p + cx.length + D.length)).drop (p + cx.length) = D ++ L.drop (p + cx.length + D.length) := by
  rw [List.append_assoc]; exact List.drop_left' h1
 have h3 : (L.take (p + cx.length) ++ D ++ L.drop (p + cx.length + D.length)).take p = L.take p := by
  rw [List.append_assoc, List.take_append_of_le_length (by omega), List.take_take, Nat.min_eq_left (by omega)]
 rw [h2, h3]
 constructor
 ·rw [← List.append_assoc]; exact List.take_left' (by simp; omega)
 ·simp; omega
theorem kept_of_grown' {w w' : World} {row : Option Nat} {S : Nat → Prop} (h : w.grownBy w' row) (hg : ∀ k, row = some k → S k) : Kept w w' S :=
 ⟨h.size, fun i hi hn => h.block i hi (fun he => hn (hg i he.symm))⟩
end Go.Proofs.YtjebkmfljcanlaaDoor.SLX
namespace Go.Proofs.YtjebkmfljcanlaaDoor.Q
open Go.RowKit Go.Proofs.YtjebkmfljcanlaaDoorW.PrintWords Go.Proofs.YtjebkmfljcanlaaDoorW.PrintLast Go.Proofs.YtjebkmfljcanlaaDoorW.PrintMore
attribute [local go_sem] aM_ aN_ be_ bc_ aC_ aD_ aL_ aK_
def cd_.f (l0 : List S43) (a1 : Int) (l2 : List S43) : Option (List S43) := match l2 with
 | [x] => if 0 ≤ a1 ∧ a1 ≤ (l0.length : Int) ∧ l0.length + 1 < 2932031007402 then some (l0.take a1.toNat ++ [x] ++ l0.drop a1.toNat) else none
 | _ => none
set_option maxHeartbeats 2000000 in
set_option maxRecDepth 100000 in
theorem cd_.calls (P0_ : Nat → Prop) (u9000_ : Value) (l0 : List S43) (a1 : Int) (P2_ : Nat → Prop) (u9001_ : Value) (l2 : List S43) (r : List S43) (w0 w : World) (hB : Below w0.heap.size w0 w) (ho0 : Kd.R k43 43 w w0.heap.size P0_ u9000_ l0) (hp0_2 : ∀ k_, P0_ k_ → ¬ P2_ k_) (ho2 : Kd.R k43 43 w w0.heap.size P2_ u9001_ l2) (hp2_0 : ∀ k_, P2_ k_ → ¬ P0_ k_) (h : cd_.f l0 a1 l2 = some r) :
  Calls Tryd.prog 64 #[u9000_, .int .i64 a1, u9001_] w fun e w' => ∃ v0_ : Value, e = .returned (v0_) ∧ Kd.R k43 43 w' w0.heap.size (fun k_ => ((P0_ k_ ∨ P2_ k_) ∨ w.heap.size ≤ k_)) v0_ r ∧ Below w0.heap.size w0 w' ∧ Kept w w' (fun k_ => P0_ k_ ∨ P2_ k_) := by
 unfold cd_.f at h
 split at h
 case h_2 => cases h
 rename_i x
 split at h
 case isFalse => cases h
 rename_i hc
 obtain ⟨h0, h1, hlim⟩ := hc
 obtain rfl := Option.some.inj h
 obtain ⟨i, rfl⟩ := Int.eq_ofNat_of_zero_le h0
 rw [Int.toNat_natCast]
 have hF : SLX.Flat k43 := ⟨fun _ _ _ _ _ _ _ _ h => h, fun _ _ _ _ _ h => h⟩
 have hsz : maxLen = 9223372036854775807 := by decide
 rcases SLX.R_open ho2 with ⟨_, hx⟩ | ⟨g2, c2, cur2, okk2, rfl, hok2, hbg2, hh2, hnc2, hcm2, hcs2, hrep2⟩
 ·cases hx
 have hl1 : ([x] : List S43).length = 1 := rfl
 rw [hl1] at hnc2 hrep2 ho2 ⊢
 obtain ⟨i0, hi0, hz0, hzs, hzb⟩ := info_parts cs_
 have hC2 := (Kd.aE_ ho2).2.2
 rw [hl1] at hC2
 have hRow : Reps (Kd.M k43 w w0.heap.size okk2) 3 [x] (cur2.toList.take 3) := by
  have h := hrep2
  rw [Nat.one_mul] at h
  exact h
 obtain ⟨cx, hcx⟩ : ∃ cx, cx = cur2.toList.take 3 := ⟨_, rfl⟩
 rw [← hcx] at hRow
 have hcxl : cx.length = 3 := by simpa using hRow.1
 have hcx1 : ∀ v ∈ cx, v.oneCell' = true := by
  have := hRow.2 0 x rfl
  have h2 : (cx.drop (0 * 3)).take 3 = cx := by rw [Nat.zero_mul, List.drop_zero]; exact List.take_of_length_le (by omega)
  rw [h2] at this
  exact Kd.K_one k43 (Kd.K_of_M k43 this)
 have hcxc : ∀ (W : World), W.heap[g2]? = some (.cells cur2 43 (0, 0)) → ∀ j v, cx[j]? = some v → W.cell? ((⟨g2, 0, none⟩ : Addr).add j) = some v := by
  intro W hW j v hj
  rw [add_plain, cell_of_row W g2 _ cur2 43 (0, 0) hW, ← Array.getElem?_toList]
  rw [hcx, List.getElem?_take] at hj
  split at hj
  ·exact hj
  ·cases hj
 by_cases hend : i = l0.length
 ·
  subst hend
  rw [List.take_length, List.drop_length, List.append_nil]
  have HOm : Kd.R k43 43 w w0.heap.size (fun k_ => ((P0_ k_ ∨ P2_ k_) ∨ w.heap.size ≤ k_)) u9000_ l0 := Kd.aG_ ho0 (fun _ hk => .inl (.inl hk))
  have HKS : ∀ k, u9000_.ownBlock = some k → P0_ k := ho0.1
  obtain ⟨A0, c0, rfl, hc0, _⟩ := Kd.R_reads ho0
  have HO := Aside0.mk HOm
  have HB := Aside0.mk hB
  have HC := Aside0.mk hC2
  have HL := Aside0.mk hlim
  have HS := Aside0.mk HKS
  clear ho0 HOm hB hC2 hlim hcx1 hcxc hRow hrep2 h h1 h0 hp0_2 hp2_0 HKS
  go_enter Tryd.func64, Tryd.ntmps64
  go_wp2_with ((with_reducible refine aY_ (b := .append) (xs := #[.tmp 23, .tmp 24]) rfl ?_); at_builtin; refine Kd.R_append_rows k43 (w0 := w0) w0.heap.size rfl (.tmp 23) (.tmp 24) 27 43 (.agg #[(.string ⟨#[]⟩), (.string ⟨#[]⟩), (.string ⟨#[]⟩)]) 48 rfl Tryd.underlying27 cs_ rfl (by decide) (by omega) _ l0 [x] _ _ _ (fun k_ => ((P0_ k_ ∨ P2_ k_) ∨ w.heap.size ≤ k_)) (fun _ => False) rfl rfl HO.out HC.out (fun _ _ h => h) (fun _ h => h.elim) (fun _ hk => .inr hk) HB.out HB.out.size (by have := HL.out; omega) ?_; intro v1 w1 ho1 hb1 hg1 _; have HO1 := Aside0.mk ho1; have HB1 := Aside0.mk hb1; have HK1 := Aside0.mk (SLX.kept_of_grown' (S := fun k_ => P0_ k_ ∨ P2_ k_) hg1 (fun k hk => .inl (HS.out k hk))); clear ho1 hb1 hg1)
  all_goals
   go_ret
   exact ⟨_, rfl, HO1.out, HB1.out, HK1.out⟩
 ·
  rcases SLX.R_open ho0 with ⟨_, rfl⟩ | ⟨g, c, cur, okk, rfl, hok, hbg, hh, hnc, hcm, hcs, hrep⟩
  ·simp at h1 hend; omega
  obtain ⟨n, hn⟩ : ∃ n, n = l0.length := ⟨_, rfl⟩
  have hi : i < n := by omega
  have hgg : g ≠ g2 := fun e => hp0_2 g hok (e ▸ hok2)
  obtain ⟨CS, hCS⟩ : ∃ CS, CS = cur.toList.take (l0.length * 3) := ⟨_, rfl⟩
  have hrepC : Reps (Kd.M k43 w w0.heap.size okk) 3 l0 CS := by rw [hCS]; exact hrep
  have hCSl : CS.length = n * 3 := by rw [hrepC.1, hn]
  have hcsz : cur.size = c * 3 := hcs
  have hnc3 : n * 3 ≤ c * 3 := Nat.mul_le_mul_right _ (by omega)
  have hin3 : i * 3 + 3 ≤ n * 3 := by have := Nat.mul_le_mul_right 3 (show i + 1 ≤ n by omega); rw [Nat.add_mul, Nat.one_mul] at this; exact this
  have hCS1 : ∀ v ∈ CS, v.oneCell' = true := by
   intro v hv
   obtain ⟨q, hq, rfl⟩ := List.mem_iff_getElem.1 hv
   have hql : q / 3 < l0.length := by omega
   refine Kd.K_one k43 (Kd.K_of_M k43 (hrepC.2 (q / 3) _ (List.getElem?_eq_getElem hql))) _ ?_
   rw [List.mem_iff_getElem?]
   refine ⟨q % 3, ?_⟩
   rw [List.getElem?_take, if_pos (by omega), List.getElem?_drop, show q / 3 * 3 + q % 3 = q by omega, List.getElem?_eq_getElem hq]
  have hCSc : ∀ (W : World), W.heap[g]? = some (.cells cur 43 (0, 0)) → ∀ p j v, (CS.drop p)[j]? = some v → W.cell? ((⟨g, p, none⟩ : Addr).add j) = some v := by
   intro W hW p j v hj
   rw [Addr.add_lit, cell_of_row W g _ cur 43 (0, 0) hW, ← Array.getElem?_toList]
   rw [List.getElem?_drop, hCS, List.getElem?_take] at hj
   split at hj
   ·exact hj
   ·cases hj
  have hDl : (CS.drop (i * 3)).length = (n - i) * 3 := by rw [List.length_drop, hCSl, Nat.sub_mul]
  have hRes : Reps (Kd.M k43 w w0.heap.size okk) 3 (l0.take i ++ [x] ++ l0.drop i) (CS.take (i * 3) ++ cx ++ CS.drop (i * 3)) :=
   Kd.reps_append (Kd.reps_append (Kd.reps_take hrepC (by omega)) (SLX.reps_imp hRow (fun _ _ h => hF.1 _ _ _ _ _ _ _ _ h))) (Kd.reps_drop hrepC)
  have hsz3 : (Tryd.prog.info? 43).map (·.size) = some 3 := by rw [hi0]; simp [hzs]
  have hrl : (l0.take i ++ [x] ++ l0.drop i).length = n + 1 := by simp; omega
  have b1 : i ≤ n := by omega
  have b2 : n ≤ c := by omega
  have b3 : ¬ ((i : Int) = (n : Int)) := by omega
  have b4 : ¬ c = i := by omega
  have b5 : i ≤ c := by omega
  have b6 : (0 : Int) ≤ (i : Int) + 1 := by omega
  have b7 : (i : Int) + 1 ≤ (n : Int) + 1 := by omega
  have b8 : ((i : Int) + 1).toNat = i + 1 := by omega
  have b9 : (i : Int) ≤ (n : Int) + 1 := by omega
  have hlm : n < 140737488355328 := by omega
  have w1_ : IntKind.i64.wrap ((n : Int) + 1) = (n : Int) + 1 := by rw [IntKind.wrap_i64]; omega
  have w2_ : IntKind.i64.wrap ((i : Int) + 1) = (i : Int) + 1 := by rw [IntKind.wrap_i64]; omega
  have w3_ : IntKind.i64.wrap ((n : Int) + 1 - (i : Int)) = (n : Int) + 1 - (i : Int) := by rw [IntKind.wrap_i64]; omega
  rw [← hn]
  by_cases hroom : n + 1 ≤ c
  ·
   have hl := SLX.shift_list cur.toList cx (CS.drop (i * 3)) (i * 3) (by rw [hcxl, hDl, Array.length_toList, hcsz]; have := Nat.mul_le_mul_right 3 hroom; omega)
   rw [hcxl, hDl, show i * 3 + 3 + (n - i) * 3 = (n + 1) * 3 by omega, show i * 3 + 3 = (i + 1) * 3 by omega] at hl
   obtain ⟨c1, hc1⟩ : ∃ c1 : Array Value, c1 = (cur.toList.take ((i + 1) * 3) ++ CS.drop (i * 3) ++ cur.toList.drop ((n + 1) * 3)).toArray := ⟨_, rfl⟩
   obtain ⟨c3, hc3⟩ : ∃ c3 : Array Value, c3 = (c1.toList.take (i * 3) ++ cx ++ c1.toList.drop ((i + 1) * 3)).toArray := ⟨_, rfl⟩
   have hc1s : c1.size = cur.size := by rw [hc1]; simp [hDl, hcsz]; have := Nat.mul_le_mul_right 3 hroom; omega
   have e1 : c3.toList.take ((n + 1) * 3) = CS.take (i * 3) ++ cx ++ CS.drop (i * 3) := by
    have h := hl.1
    rw [hc3, hc1]
    simp only [List.toList_toArray]
    rw [h, hCS, List.take_take, Nat.min_eq_left (by rw [← hn]; omega)]
   have e2 : c3.size = c * 3 := by
    have h := hl.2
    rw [← hcsz, ← Array.length_toList, ← Array.length_toList, hc3, hc1]
    simpa only [List.toList_toArray] using h
   have hov : ∀ lb cb, (callFunc 81 #[.slice (some ⟨g2, 0, none⟩) 1 c2, .slice (some ⟨g, (i + 1) * 3, none⟩) lb cb]).run Tryd.prog w = .ok (.value (.bool false)) w := fun lb cb => by
    rw [run_callFunc_extern Tryd.func81 (by kernel_rfl) (by kernel_rfl) (by kernel_rfl) (e := Extern.SlicesOverlaps.overlaps #[27, 27] #[4]) (by kernel_rfl),
     Lib.run_overlaps_apart w 27 4 43 Tryd.underlying27 3 Tryd.sizeOf43 ⟨g2, 0, none⟩ ⟨g, (i + 1) * 3, none⟩ 1 c2 lb cb (Ne.symm hgg) 43 43 cur2.size cur.size (by simp [World.shape?, hh2]) (by simp [World.shape?, hh]) (by rw [hcsz]; omega) (ba_ hh2 _) (ba_ hh2 _)]
    rfl
   have hA1 : ∀ ty dl dc sl sc, dl = n - i → sl = n + 1 - i → (Builtin.copy_ #[27, 27] ty #[.slice (some ⟨g, (i + 1) * 3, none⟩) dl dc, .slice (some ⟨g, i * 3, none⟩) sl sc]).run Tryd.prog w.drew = .ok (goInt (Nat.min sl dl)) (w.drew.setRow g c1) := fun ty dl dc sl sc hdl hsl => by
    have := SLX.run_copy_k (P := Tryd.prog) w.drew 27 27 ty 43 3 g ((i + 1) * 3) dl dc ⟨g, i * 3, none⟩ sl sc cur 43 (CS.drop (i * 3)) Tryd.underlying27 hsz3 hh (by rw [hDl]; congr 1; simp only [Nat.min_def]; split <;> omega)
     (hCSc w.drew hh _) (by rw [hDl, hcsz]; have := Nat.mul_le_mul_right 3 hroom; omega) (fun v hv => hCS1 v (List.mem_of_mem_drop hv))
    rw [hDl, show (i + 1) * 3 + (n - i) * 3 = (n + 1) * 3 by omega, ← hc1] at this
    exact this
   have hh3 : (w.drew.setRow g c1).heap[g]? = some (.cells c1 43 (0, 0)) := setRow_heap w.drew g cur c1 43 (0, 0) hh
   have hh4 : (w.drew.setRow g c1).heap[g2]? = some (.cells cur2 43 (0, 0)) := (setRow_other w.drew g g2 c1 (Ne.symm hgg)).trans hh2
   have hA2 : ∀ ty dl dc, dl = n + 1 - i → (Builtin.copy_ #[27, 27] ty #[.slice (some ⟨g, i * 3, none⟩) dl dc, .slice (some ⟨g2, 0, none⟩) 1 c2]).run Tryd.prog (w.drew.setRow g c1) = .ok (goInt (Nat.min 1 dl)) ((w.drew.setRow g c1).setRow g c3) := fun ty dl dc hdl => by
    have := SLX.run_copy_k (P := Tryd.prog) (w.drew.setRow g c1) 27 27 ty 43 3 g (i * 3) dl dc ⟨g2, 0, none⟩ 1 c2 c1 43 cx Tryd.underlying27 hsz3 hh3 (by rw [hcxl]; simp only [Nat.min_def]; split <;> omega)
     (hcxc _ hh4) (by rw [hcxl, hc1s, hcsz]; omega) hcx1
    rw [hcxl, show i * 3 + 3 = (i + 1) * 3 by omega, ← hc3] at this
    exact this
   have HG : w.grownBy ((w.drew.setRow g c1).setRow g c3) (some g) := World.grownBy.trans (World.grownBy.trans (cM_ (cR_ (Below.refl _ _)) _) (SLX.setRow_grown w.drew g c1)) (SLX.setRow_grown _ g c3)
   have HB := Aside0.mk (hB.grown HG hB.size (fun k hk => by injection hk with hk; subst hk; exact hbg))
   have HK := Aside0.mk (SLX.kept_of_grown (S := fun k_ => P0_ k_ ∨ P2_ k_) HG (.inl hok))
   have HR := Aside0.mk (SLX.R_shut (d := k43) (e := 43) (W := (w.drew.setRow g c1).setRow g c3) (base := w0.heap.size) (g := g) (c := c) (n := n + 1) (ok := fun k_ => ((P0_ k_ ∨ P2_ k_) ∨ w.heap.size ≤ k_)) (xs := l0.take i ++ [x] ++ l0.drop i) (.inl (.inl hok)) hbg (setRow_heap _ g c1 c3 43 (0, 0) hh3) hrl.symm hroom hcm e2
    (by show Reps _ 3 _ (List.take ((n + 1) * 3) _); rw [e1]; exact SLX.reps_imp hRes (fun _ _ h => hF.1 _ _ _ _ _ _ _ _ h)))
   have b10 : ¬ c = i + 1 := by omega
   have b11 : ¬ ((c : Int) < (n : Int) + 1) := by omega
   have b12 : n + 1 ≤ c := hroom
   have b13 : i + 1 ≤ c := by omega
   have b14 : i ≤ n + 1 := by omega
   clear HG hh3 hh4 hl e1 e2 hc1 hc3 hc1s hRes hrepC hCSc hCSl hDl hCS hCS1 hcxc hcx hRow hrep hrep2 hh hh2 ho0 ho2 hB hC2 hcs hcs2 h h0 h1 hlim hrl hend hnc
   have HN := Aside0.mk hn
   clear hn
   go_enter Tryd.func64, Tryd.ntmps64
   go_wp2_with (simp only [hov])
   go_region_law (refine SLX.step_copy_runS rfl (.tmp 73) (.tmp 76) 27 27 rfl (.slice (some ⟨g, (i + 1) * 3, none⟩) (n + 1 - (i + 1)) (c - (i + 1))) (.slice (some ⟨g, i * 3, none⟩) (n + 1 - i) (c - i)) (by simp [Act.eval, Act.put]) (by simp [Act.eval, Act.put]) (hA1 _ _ _ _ _ (by omega) (by omega)) ?_)
   go_wp2_with (at_builtin; refine SLX.list_copy_runS rfl (.tmp 80) (.tmp 81) 27 27 rfl _ _ rfl rfl (hA2 _ _ _ (by omega)) ?_)
   go_ret
   exact ⟨_, rfl, HR.out, HB.out, HK.out⟩
  ·
   have hgl : g < w.heap.size := (Array.getElem?_eq_some_iff.1 hh).1
   have hgl2 : g2 < w.heap.size := (Array.getElem?_eq_some_iff.1 hh2).1
   have hold : (Builtin.firstCells i0.size i (.slice (some ⟨g, 0, none⟩) i c)).run Tryd.prog w.drew = .ok (CS.take (i * 3)).toArray w.drew := by
    rw [hzs]
    refine run_firstCells_some w.drew 3 i ⟨g, 0, none⟩ i c (CS.take (i * 3)) (by rw [List.length_take, hCSl]; omega) (fun j v hj => ?_)
    rw [List.getElem?_take] at hj
    split at hj
    ·exact hCSc w.drew hh 0 j v (by rwa [List.drop_zero])
    ·cases hj
   obtain ⟨G, hG⟩ : ∃ G, G = grownCap w (n + 1) c 43 := ⟨_, rfl⟩
   have hGn : n + 1 ≤ G := by rw [hG]; exact grownCap_ge w _ _ _
   have hGm : G ≤ maxLen := by rw [hG]; exact grownCap_le_maxLen w (n + 1) c 43 (by rw [hsz]; omega)
   obtain ⟨ROW, hROW⟩ : ∃ ROW : Array Value, ROW = (CS.take (i * 3)).toArray ++ Builtin.zeroCells (Value.cells (.agg #[(.string ⟨#[]⟩), (.string ⟨#[]⟩), (.string ⟨#[]⟩)])) (n + 1 - i) ++ Builtin.zeroCells (Value.cells (.agg #[(.string ⟨#[]⟩), (.string ⟨#[]⟩), (.string ⟨#[]⟩)])) (G - (n + 1)) := ⟨_, rfl⟩
   have hzc : (Value.cells (.agg #[(.string ⟨#[]⟩), (.string ⟨#[]⟩), (.string ⟨#[]⟩)])).size = 3 := rfl
   have hRs : ROW.size = G * 3 := by
    rw [hROW, Array.size_append, Array.size_append, SLX.zeroCells_size, SLX.zeroCells_size, hzc, List.size_toArray, List.length_take, hCSl]
    have := Nat.mul_le_mul_right 3 hGn
    omega
   have hGn3 : (n + 1) * 3 ≤ G * 3 := Nat.mul_le_mul_right _ hGn
   have hRt : ROW.toList.take (i * 3) = CS.take (i * 3) := by
    rw [hROW, Array.toList_append, Array.toList_append, List.append_assoc]
    exact List.take_left' (by simp [hCSl]; omega)
   have hrz : ∀ ty, (Builtin.append_ #[27, 3] ty #[.slice (some ⟨g, 0, none⟩) i c, .int .i64 ((n : Int) + 1 - (i : Int))]).run Tryd.prog w = .ok (.slice (some ⟨w.heap.size, 0, none⟩) (n + 1) G) (w.drew.alloc (.cells ROW 43)) := fun ty => by
    have h := Lib.run_append_grow_zeros (P := Tryd.prog) w 27 3 ty 43 i0 (.agg #[(.string ⟨#[]⟩), (.string ⟨#[]⟩), (.string ⟨#[]⟩)]) .i64 .i64 Tryd.underlying27 Tryd.underlying3 hi0 hz0 (some ⟨g, 0, none⟩) i c (CS.take (i * 3)) hold (n + 1 - i) (by omega) (by rw [hzs]; decide) (by omega) (by omega) (by rw [hzb]; omega) (by rw [hzb, show i + (n + 1 - i) = n + 1 by omega]; exact growslice_fits (by omega) (by omega))
    rw [show i + (n + 1 - i) = n + 1 by omega, ← hG, ← hROW] at h
    rw [show (n : Int) + 1 - (i : Int) = ((n + 1 - i : Nat) : Int) by omega]
    exact h
   have hl := SLX.ins_list ROW.toList cx (CS.drop (i * 3)) (i * 3) (by rw [hcxl, hDl, Array.length_toList, hRs]; omega)
   rw [hcxl, hDl, show i * 3 + 3 + (n - i) * 3 = (n + 1) * 3 by omega, show i * 3 + 3 = (i + 1) * 3 by omega, hRt] at hl
   obtain ⟨c1, hc1⟩ : ∃ c1 : Array Value, c1 = (CS.take (i * 3) ++ cx ++ ROW.toList.drop ((i + 1) * 3)).toArray := ⟨_, rfl⟩
   obtain ⟨c3, hc3⟩ : ∃ c3 : Array Value, c3 = (c1.toList.take ((i + 1) * 3) ++ CS.drop (i * 3) ++ c1.toList.drop ((n + 1) * 3)).toArray := ⟨_, rfl⟩
   have hc1s : c1.size = G * 3 := by rw [hc1]; simp [hCSl, hcxl, hRs]; omega
   have e1 : c3.toList.take ((n + 1) * 3) = CS.take (i * 3) ++ cx ++ CS.drop (i * 3) := by
    rw [hc3, hc1]
    simpa only [List.toList_toArray] using hl.1
   have e2 : c3.size = G * 3 := by
    have h := hl.2
    rw [← hRs, ← Array.length_toList, ← Array.length_toList, hc3, hc1]
    simpa only [List.toList_toArray] using h
   have hA1 : ∀ (W : World), W.heap[w.heap.size]? = some (.cells ROW 43 (0, 0)) → W.heap[g2]? = some (.cells cur2 43 (0, 0)) → ∀ ty dl dc, dl = n + 1 - i → (Builtin.copy_ #[27, 27] ty #[.slice (some ⟨w.heap.size, i * 3, none⟩) dl dc, .slice (some ⟨g2, 0, none⟩) 1 c2]).run Tryd.prog W = .ok (goInt (Nat.min 1 dl)) (W.setRow w.heap.size c1) := fun W hW hW2 ty dl dc hdl => by
    have := SLX.run_copy_k (P := Tryd.prog) W 27 27 ty 43 3 w.heap.size (i * 3) dl dc ⟨g2, 0, none⟩ 1 c2 ROW 43 cx Tryd.underlying27 hsz3 hW (by rw [hcxl]; simp only [Nat.min_def]; split <;> omega)
     (hcxc W hW2) (by rw [hcxl, hRs]; omega) hcx1
    rw [hcxl, show i * 3 + 3 = (i + 1) * 3 by omega, hRt, ← hc1] at this
    exact this
   have hA2 : ∀ (W : World), W.heap[w.heap.size]? = some (.cells c1 43 (0, 0)) → W.heap[g]? = some (.cells cur 43 (0, 0)) → ∀ ty dl dc sl sc, dl = n - i → sl = n - i → (Builtin.copy_ #[27, 27] ty #[.slice (some ⟨w.heap.size, (i + 1) * 3, none⟩) dl dc, .slice (some ⟨g, i * 3, none⟩) sl sc]).run Tryd.prog W = .ok (goInt (Nat.min sl dl)) (W.setRow w.heap.size c3) := fun W hW hW2 ty dl dc sl sc hdl hsl => by
    have := SLX.run_copy_k (P := Tryd.prog) W 27 27 ty 43 3 w.heap.size ((i + 1) * 3) dl dc ⟨g, i * 3, none⟩ sl sc c1 43 (CS.drop (i * 3)) Tryd.underlying27 hsz3 hW (by rw [hDl]; congr 1; simp only [Nat.min_def]; split <;> omega)
     (hCSc W hW2 _) (by rw [hDl, hc1s]; omega) (fun v hv => hCS1 v (List.mem_of_mem_drop hv))
    rw [hDl, show (i + 1) * 3 + (n - i) * 3 = (n + 1) * 3 by omega, ← hc3] at this
    exact this
   obtain ⟨Wa, hWa⟩ : ∃ Wa, Wa = (w.alloc (.cells ROW 43)).drew := ⟨_, rfl⟩
   have a1_ : Wa.heap[w.heap.size]? = some (.cells ROW 43 (0, 0)) := by rw [hWa]; exact heap_alloc_new w _
   have a2_ : Wa.heap[g2]? = some (.cells cur2 43 (0, 0)) := by rw [hWa]; exact (heap_alloc_old w _ hgl2).trans hh2
   have a3_ : Wa.heap[g]? = some (.cells cur 43 (0, 0)) := by rw [hWa]; exact (heap_alloc_old w _ hgl).trans hh
   have a4_ : (Wa.setRow w.heap.size c1).drew.heap[w.heap.size]? = some (.cells c1 43 (0, 0)) := setRow_heap Wa _ ROW c1 43 (0, 0) a1_
   have a5_ : (Wa.setRow w.heap.size c1).drew.heap[g]? = some (.cells cur 43 (0, 0)) := (setRow_other Wa _ g c1 (by omega)).trans a3_
   have r1 : ∀ ty dl dc, dl = n + 1 - i → _ := hA1 Wa a1_ a2_
   have r2 : ∀ ty dl dc sl sc, dl = n - i → sl = n - i → _ := hA2 (Wa.setRow w.heap.size c1).drew a4_ a5_
   have HG : w.grownBy ((Wa.setRow w.heap.size c1).drew.setRow w.heap.size c3) (some w.heap.size) := by
    refine World.grownBy.trans (World.grownBy.trans (World.grownBy.trans (b := Wa) ?_ (SLX.setRow_grown Wa w.heap.size c1)) (cM_ (cR_ (Below.refl _ _)) _)) (SLX.setRow_grown _ _ c3)
    rw [hWa]
    exact cM_ (cR_ (bA_ (Below.refl _ _) _)) _
   have HB := Aside0.mk (hB.grown HG hB.size (fun k hk => by injection hk with hk; subst hk; exact hB.size))
   have HK : Aside0 (Kept w ((Wa.setRow w.heap.size c1).drew.setRow w.heap.size c3) (fun k_ => P0_ k_ ∨ P2_ k_)) := ⟨⟨HG.size, fun k hk _ => HG.block k hk (fun he => by injection he with he; omega)⟩⟩
   have HR := Aside0.mk (SLX.R_shut (d := k43) (e := 43) (W := (Wa.setRow w.heap.size c1).drew.setRow w.heap.size c3) (base := w0.heap.size) (g := w.heap.size) (c := G) (n := n + 1) (ok := fun k_ => ((P0_ k_ ∨ P2_ k_) ∨ w.heap.size ≤ k_)) (xs := l0.take i ++ [x] ++ l0.drop i) (.inr (Nat.le_refl _)) hB.size (setRow_heap _ _ c1 c3 43 (0, 0) a4_) hrl.symm hGn hGm e2
    (by show Reps _ 3 _ (List.take ((n + 1) * 3) _); rw [e1]; exact SLX.reps_imp hRes (fun _ _ h => hF.1 _ _ _ _ _ _ _ _ h)))
   have b10 : ¬ G = i + 1 := by omega
   have b11 : ((c : Int) < (n : Int) + 1) := by omega
   have b12 : ¬ G = i := by omega
   have b13 : i + 1 ≤ G := by omega
   have b14 : i ≤ n + 1 := by omega
   have b15 : i ≤ G := by omega
   subst hWa
   clear HG hl e1 e2 hc1 hc3 hc1s hRes hrepC hCSc hCSl hDl hCS hCS1 hcxc hcx hRow hrep hrep2 hh hh2 ho0 ho2 hB hC2 hcs hcs2 h h0 h1 hlim hrl hend hnc hold hG hROW hRs hRt hA1 hA2 a1_ a2_ a3_ a4_ a5_ hgl hgl2
   have HN := Aside0.mk hn
   clear hn
   go_enter Tryd.func64, Tryd.ntmps64
   go_wp2_with (first
    | (at_builtin; refine SLX.list_append_runS rfl (.tmp 34) (.tmp 39) 27 3 rfl _ _ rfl rfl (hrz _) ?_)
    | (at_builtin; refine SLX.list_copy_runS rfl (.tmp 43) (.tmp 44) 27 27 rfl _ _ rfl rfl (r1 _ _ _ (by omega)) ?_))
   go_region_law (refine SLX.step_copy_runS rfl (.tmp 50) (.tmp 53) 27 27 rfl (.slice (some ⟨w.heap.size, (i + 1) * 3, none⟩) (n + 1 - (i + 1)) (G - (i + 1))) (.slice (some ⟨g, i * 3, none⟩) (n - i) (c - i)) (by simp [Act.eval, Act.put]) (by simp [Act.eval, Act.put]) (r2 _ _ _ _ _ (by omega) (by omega)) ?_)
   go_wp2
   go_ret
   exact ⟨_, rfl, HR.out, HB.out, HK.out⟩
def bk_.j0 : Nat → List (S43) → Bool → ByteArray → ByteArray → ByteArray → Option ((List (S43)) × Int)
 | 0, _, _, _, _, _ => none
 | k + 1, x0, x16, x102000, x102001, x102002 => if x16 = true then (some (([] : List (S43)), 1)) else ((cp_.f x0).bind fun t104 => ((aB_.f k x0 x102000 x102001 x102002).bind fun bt107 => (if bt107.2 = true then (if 0 ≤ bt107.1 then (if bt107.1 < (t104.length : Int) then (some ((t104.set (bt107.1 : Int).toNat (⟨x102000, x102001, x102002⟩ : S43)), 0)) else (none)) else (none)) else (if (x0.length : Int) = 32 then (some (([] : List (S43)), 5)) else ((cd_.f t104 bt107.1 (([(⟨x102000, x102001, x102002⟩ : S43)] : List (S43)))).bind fun t113 => (some (t113, 0)))))))
def bk_.f (k : Nat) (l0 : List (S43)) (a1_0 : ByteArray) (a1_1 : ByteArray) (a1_2 : ByteArray) : Option ((List (S43)) × Int) := (as_.f k l0).bind fun t102 => (if t102 = true then ((aT_.f k a1_0 a1_1 a1_2).bind fun t103 => (bk_.j0 k l0 (!t103) a1_0 a1_1 a1_2)) else (bk_.j0 k l0 true a1_0 a1_1 a1_2))
set_option maxHeartbeats 8000000 in
set_option maxRecDepth 100000 in
theorem bk_.calls (k : Nat) (A0 : Option Addr) (c0 : Nat) (l0 : List (S43)) (a1_0 : ByteArray) (a1_1 : ByteArray) (a1_2 : ByteArray) (r1 : List (S43)) (r2 : Int) (w : World) (hr0 : Kd.C k43 w A0 l0.length l0) (hc0 : l0.length ≤ c0) (h : bk_.f k l0 a1_0 a1_1 a1_2 = some (r1, r2)) :
  Calls Tryd.prog 40 #[.slice A0 l0.length c0, .agg #[.string a1_0, .string a1_1, .string a1_2]] w fun e w' => ∃ v0_ : Value, e = .returned (.tuple #[v0_, .int .i64 r2]) ∧ Kd.R k43 43 w' w.heap.size (fun _ => True) v0_ r1 ∧ Below w.heap.size w w' := by
 have hu43 := Tryd.underlying43
 have HR0 := Aside0.mk hr0
 have HC0 := Aside0.mk hc0
 clear hr0 hc0
 have HB := Aside0.mk (Below.refl w.heap.size w)
 have H : ((as_.f k l0).bind fun t102 => (if t102 = true then ((aT_.f k a1_0 a1_1 a1_2).bind fun t103 => (bk_.j0 k l0 (!t103) a1_0 a1_1 a1_2)) else (bk_.j0 k l0 true a1_0 a1_1 a1_2))) = some (r1, r2) := h
 clear h
 have HC3 := Aside0.mk H
 clear H
 go_enter Tryd.func40, Tryd.ntmps40
 go_upto_region 1 with (first | ((with_reducible refine aS_ (N := 3) rfl ?_); refine bB_ ?hg (N := 3) ?hd (cs := #[.string a1_0, .string a1_1, .string a1_2]) (t := 43) ?hr ?_; (case hd => rfl); (case hg => rfl); (case hr => (go_simp; try rfl)); intro gb101 hg w4 hbox hb; have BK101 := Aside0.mk (hbox); have GW101 := Aside0.mk ((by rw [hg]; exact (ak_ (bz HB.out)) : w.heap.size ≤ gb101)); have GE101 := GW101; replace HB := Aside0.mk (ah_ (bz HB.out) hb); clear hb hbox hg))
 (try simp only [Act.put, lsa_, ls0_, ls1_])
 go_cut [16] (fun v16 wc => ∃ (kq : Nat) (x16_2 : Bool), v16 = .bool x16_2 ∧ Aside0 (bk_.j0 kq l0 x16_2 a1_0 a1_1 a1_2 = some (r1, r2)) ∧ Aside0 (kq ≤ k) ∧ Aside0 (wc.heap[gb101]? = some (.cells #[.string a1_0, .string a1_1, .string a1_2] 43 (0, 0))) ∧ Aside0 (Below w.heap.size w wc))
 case first =>
  have H := HC3.out
  clear HC3
  replace H := Option.bind_eq_some_iff.mp H
  obtain ⟨t102, A50, H⟩ := H
  (try dsimp only at H)
  have A5 := Aside0.mk A50
  clear A50
  by_cases c6 : t102 = true
  rotate_left
  ·replace c6 := Bool.eq_false_iff.mpr c6
   subst c6
   have H1 : (bk_.j0 k l0 true a1_0 a1_1 a1_2) = some (r1, r2) := by rw [if_neg (show ¬ (false = true) by decide)] at H; exact H
   clear H
   have H := H1
   clear H1
   have H' := Aside0.mk H
   clear H
   go_wp2_with (first | ((with_reducible refine al_ (f := 61) rfl ?_); refine bf_ (some 10) rfl rfl Tryd.func61 (by kernel_rfl) rfl #[.slice A0 l0.length c0] rfl (by first | rfl | (simp only [lma_, lmc_, lmn_]; first | done | rfl)) ?_; (with_reducible refine (as_.calls k _ _ l0 false _ ?side1 ?side2 A5.out).mono ?_); (case side1 => exact cz (Kd.bW_ HR0.out HB.out)); (case side2 => exact HC0.out); rintro e w11 ⟨rfl, hb⟩; refine ⟨_, rfl, ?_⟩; replace BK101 := Aside0.mk (az_ (kz BK101.out) hb); replace HB := Aside0.mk (ah_ (bq) hb); (try clear hb)))
   go_meet
   case rel => exact ⟨_, (true), (by first | rfl | (simp; done) | (simp [*]; done)), H', ⟨by first | omega | exact Nat.le_refl _⟩, ⟨by (with_reducible repeat (first | refine bj_ ?_ _ | refine aX_ ?_ | refine aU_ ?_ _)); exact BK101.out⟩, ⟨bq⟩⟩
  subst c6
  have H1 : ((aT_.f k a1_0 a1_1 a1_2).bind fun t103 => (bk_.j0 k l0 (!t103) a1_0 a1_1 a1_2)) = some (r1, r2) := by rw [if_pos rfl] at H; exact H
  clear H
  have H := H1
  clear H1
  replace H := Option.bind_eq_some_iff.mp H
  obtain ⟨t103, A70, H⟩ := H
  (try dsimp only at H)
  have A7 := Aside0.mk A70
  clear A70
  have H' := Aside0.mk H
  clear H
  go_wp2_with (first | ((with_reducible refine al_ (f := 61) rfl ?_); refine bf_ (some 10) rfl rfl Tryd.func61 (by kernel_rfl) rfl #[.slice A0 l0.length c0] rfl (by first | rfl | (simp only [lma_, lmc_, lmn_]; first | done | rfl)) ?_; (with_reducible refine (as_.calls k _ _ l0 true _ ?side1 ?side2 A5.out).mono ?_); (case side1 => exact cz (Kd.bW_ HR0.out HB.out)); (case side2 => exact HC0.out); rintro e w8 ⟨rfl, hb⟩; refine ⟨_, rfl, ?_⟩; replace BK101 := Aside0.mk (az_ (kz BK101.out) hb); replace HB := Aside0.mk (ah_ (bq) hb); (try clear hb); obtain ⟨hcz9_0, hcz9_1, hcz9_2⟩ := cz3_ BK101.out; obtain ⟨hfz9_0, hfz9_1, hfz9_2⟩ := fz3_ BK101.out) | (go_at_call 53; (with_reducible refine (aT_.calls k a1_0 a1_1 a1_2 t103 _ A7.out).mono ?_); rintro e w10 ⟨rfl, hb⟩; replace BK101 := Aside0.mk (az_ (kz BK101.out) hb); replace HB := Aside0.mk (ah_ (bq) hb); (try clear hb)))
  go_meet
  case rel => exact ⟨_, (!t103), (by first | rfl | (simp; done) | (simp [*]; done)), H', ⟨by first | omega | exact Nat.le_refl _⟩, ⟨by (with_reducible repeat (first | refine bj_ ?_ _ | refine aX_ ?_ | refine aU_ ?_ _)); exact BK101.out⟩, ⟨bq⟩⟩
 case rest =>
  clear HC3
  obtain ⟨kq, x16_2, rfl, HA, HJ2, BK101, HB⟩ := hcut
  cases kq with
  | zero => exact absurd HA.out (by simp [bk_.j0])
  | succ kj2 =>
   have H := HA.out
   clear HA
   simp only [bk_.j0] at H
   by_cases c12 : x16_2 = true
   rotate_left
   ·replace c12 := Bool.eq_false_iff.mpr c12
    subst c12
    have H1 : ((cp_.f l0).bind fun t104 => ((aB_.f kj2 l0 a1_0 a1_1 a1_2).bind fun bt107 => (if bt107.2 = true then (if 0 ≤ bt107.1 then (if bt107.1 < (t104.length : Int) then (some ((t104.set (bt107.1 : Int).toNat (⟨a1_0, a1_1, a1_2⟩ : S43)), 0)) else (none)) else (none)) else (if (l0.length : Int) = 32 then (some (([] : List (S43)), 5)) else ((cd_.f t104 bt107.1 (([(⟨a1_0, a1_1, a1_2⟩ : S43)] : List (S43)))).bind fun t113 => (some (t113, 0))))))) = some (r1, r2) := by rw [if_neg (show ¬ (false = true) by decide)] at H; exact H
    clear H
    have H := H1
    clear H1
    replace H := Option.bind_eq_some_iff.mp H
    obtain ⟨t104, A130, H⟩ := H
    (try dsimp only at H)
    have A13 := Aside0.mk A130
    clear A130
    replace H := Option.bind_eq_some_iff.mp H
    obtain ⟨⟨t107, t108⟩, A140, H⟩ := H
    (try dsimp only at H)
    have A14 := Aside0.mk A140
    clear A140
    have HC15 := Aside0.mk H
    clear H
    go_upto_if 30 with (first | ((with_reducible refine al_ (f := 62) rfl ?_); refine bf_ (some 18) rfl rfl Tryd.func62 (by kernel_rfl) rfl #[.slice A0 l0.length c0] rfl (by first | rfl | (simp only [lma_, lmc_, lmn_]; first | done | rfl)) ?_; (with_reducible refine (cp_.calls _ _ l0 t104 _ ?side1 ?side2 A13.out).mono ?_); (case side1 => exact cz (Kd.bW_ HR0.out HB.out)); (case side2 => exact HC0.out); rintro e w16 ⟨v105, rfl, ho0, hb⟩; refine ⟨_, rfl, ?_⟩; have HO106 := Aside0.mk (Kd.bw_ (Kd.R_newB ho0 (g := gb101) (o := .cells #[.string a1_0, .string a1_1, .string a1_2] 43 (0, 0)) (kz BK101.out)) (ak_ (bq))); replace BK101 := Aside0.mk (az_ (kz BK101.out) hb); replace HB := Aside0.mk (ah_ (bq) hb); (try clear hb); (try clear ho0); obtain ⟨hcz17_0, hcz17_1, hcz17_2⟩ := cz3_ BK101.out; obtain ⟨hfz17_0, hfz17_1, hfz17_2⟩ := fz3_ BK101.out) | ((with_reducible refine al_ (f := 63) rfl ?_); refine bf_ (some 22) rfl rfl Tryd.func63 (by kernel_rfl) rfl #[.slice A0 l0.length c0, .agg #[.string a1_0, .string a1_1, .string a1_2], .func (.func 36) #[] #[]] rfl (by first | rfl | (simp only [lma_, lmc_, lmn_]; first | done | rfl)) ?_; (with_reducible refine (aB_.calls kj2 _ _ l0 a1_0 a1_1 a1_2  t107 t108 _ ?side1 ?side2 A14.out).mono ?_); (case side1 => exact cz (Kd.bW_ HR0.out HB.out)); (case side2 => exact HC0.out); rintro e w18 ⟨rfl, hb⟩; refine ⟨_, rfl, ?_⟩; replace HO106 := Aside0.mk (Kd.bI_ (rz HO106.out) hb); replace BK101 := Aside0.mk (az_ (kz BK101.out) hb); replace HB := Aside0.mk (ah_ (bq) hb); (try clear hb)))
    (try simp only [Act.put, lsa_, ls0_, ls1_])
    have H := HC15.out
    clear HC15
    by_cases c19 : t108 = true
    rotate_left
    ·replace c19 := Bool.eq_false_iff.mpr c19
     subst c19
     have H1 : (if (l0.length : Int) = 32 then (some (([] : List (S43)), 5)) else ((cd_.f t104 t107 (([(⟨a1_0, a1_1, a1_2⟩ : S43)] : List (S43)))).bind fun t113 => (some (t113, 0)))) = some (r1, r2) := by rw [if_neg (show ¬ (false = true) by decide)] at H; exact H
     clear H
     have H := H1
     clear H1
     by_cases c26 : (l0.length : Int) = 32
     rotate_left
     ·rw [if_neg c26] at H
      have c26b0 : ((l0.length : Int) == 32) = false := beq_eq_false_iff_ne.mpr c26
      have c26b1 : ((l0.length : Int) != 32) = true := bne_iff_ne.mpr c26
      obtain ⟨y110, hy110⟩ : ∃ y_ : List (S43), y_ = (([(⟨a1_0, a1_1, a1_2⟩ : S43)] : List (S43))) := ⟨_, rfl⟩
      replace H : ((cd_.f t104 t107 y110).bind fun t113 => (some (t113, 0))) = some (r1, r2) := by first | (rw [hy110]; with_reducible exact H) | (have H2_ := (Option.bind_some _ _).symm.trans H; rw [hy110]; with_reducible exact H2_) | (have H2_ := (Option.bind_some _ _).symm.trans H; with_reducible exact H2_) | with_reducible exact H | (rw [hy110]; exact H) | exact H
      have Ny110 := Aside0.mk hy110
      clear hy110
      replace H := Option.bind_eq_some_iff.mp H
      obtain ⟨t113, A270, H⟩ := H
      (try dsimp only at H)
      have A27 := Aside0.mk A270
      clear A270
      simp only [Option.some.injEq, Prod.mk.injEq] at H
      obtain ⟨rfl, rfl⟩ := H
      obtain ⟨hcz28_0, hcz28_1, hcz28_2⟩ := cz3_ BK101.out
      obtain ⟨hfz28_0, hfz28_1, hfz28_2⟩ := fz3_ BK101.out
      go_wp2_with (first | ((with_reducible refine aS_ (N := 28) rfl ?_); refine Kd.R_lit k43 _ 43 ?hg (N := 28) ?hd (xs := ([(⟨a1_0, a1_1, a1_2⟩ : S43)] : List (S43))) (inner := [.string a1_0, .string a1_1, .string a1_2]) (ok := fun _ => True) (okp := fun _ => True) ?hr ?hp (fun _ hk => hk) trivial (Below.refl _ _) (Nat.le_refl _) (by simp) ?_; (case hd => rfl); (case hg => rfl); (case hr => (go_simp; try rfl)); (case hp => exact (Reps.c3 (show Kd.M k43 _ _ _ (⟨a1_0, a1_1, a1_2⟩ : S43) [.string a1_0, .string a1_1, .string a1_2] from (cf_ _ _ _ (⟨a1_0, a1_1, a1_2⟩ : S43) )) (Reps.none _ _))); intro v111 w29 ho30 hb hg_ hnew_; clear hg_ hnew_; (first | rw [← Ny110.out] at ho30 | (simp only [Int.reduceToNat] at ho30; rw [← Ny110.out] at ho30)); have HO112 := Aside0.mk (Kd.bw_ (Kd.R_newB (Kd.bE_ ho30 (Kd.R_lt (rz HO106.out))) (g := gb101) (o := .cells #[.string a1_0, .string a1_1, .string a1_2] 43 (0, 0)) (kz BK101.out)) (ak_ (bq))); replace HO106 := Aside0.mk (Kd.aW_ (rz HO106.out) (Kd.bs_ ho30) hb); replace BK101 := Aside0.mk (az_ (kz BK101.out) hb); replace HB := Aside0.mk (ah_ (bq) hb); clear hb ho30; obtain ⟨Ao31, co31, eo31⟩ := Kd.bL_ HO106.out; subst eo31; obtain ⟨Ao32, co32, eo32⟩ := Kd.bL_ HO112.out; subst eo32) | ((with_reducible refine al_ (f := 64) rfl ?_); refine bf_ (some 29) rfl rfl Tryd.func64 (by kernel_rfl) rfl #[.slice Ao31 t104.length co31, .int .i64 t107, .slice Ao32 y110.length co32] rfl (by first | rfl | (simp only [lma_, lmc_, lmn_]; first | done | rfl)) ?_; (with_reducible refine (cd_.calls (fun k_ => some k_ = (.slice Ao31 t104.length co31 : Value).ownBlock) (.slice Ao31 t104.length co31) t104 t107 (fun k_ => some k_ = (.slice Ao32 y110.length co32 : Value).ownBlock) (.slice Ao32 y110.length co32) y110 t113 w _ ?side1 ?side2 ?side3 ?side4 ?side5 A27.out).mono ?_); (case side1 => repeat (first | (with_reducible first | exact HB.out | apply bA_ | apply bN_ | apply bD_ | refine ab_ ?_ GE101.out))); (case side2 => exact Kd.R_tight rfl HO106.out); (case side3 => exact fun k_ e_ => (HO106.out.1 k_ e_.symm).2); (case side4 => exact Kd.R_tight rfl HO112.out); (case side5 => exact fun k_ e_ => (HO112.out.1 k_ e_.symm).1.2); rintro e w33 ⟨v114, rfl, ho0, hb, hkp⟩; refine ⟨_, rfl, ?_⟩; have HO115 := Aside0.mk (Kd.aG_ (ok' := fun k_ => k_ ≠ gb101) ho0 (fun k_ hk_ => Or.elim hk_ (fun hs_ => Or.elim hs_ (fun hs_ => fun e_ => (Kd.cv_ HO106.out (fun _ hk => hk.1.2)) (by rw [← e_]; exact hs_)) (fun hs_ => fun e_ => (Kd.cv_ HO112.out (fun _ hk => hk.2)) (by rw [← e_]; exact hs_))) (fun hn_ => (Kd.cz_ (g := gb101) (o := .cells #[.string a1_0, .string a1_1, .string a1_2] 43 (0, 0)) (kz BK101.out) k_ hn_)))); replace BK101 := Aside0.mk (blk_kept (kz BK101.out) hkp (fun hs_ => Or.elim hs_ (fun e_ => (fun e_ => (Kd.cv_ HO106.out (fun _ hk => hk.1.2)) e_) e_) (fun e_ => (fun e_ => (Kd.cv_ HO112.out (fun _ hk => hk.2)) e_) e_))); replace HB := Aside0.mk (hb); clear HO106; clear HO112; (try clear hb); (try clear hkp); (try clear ho0)))
      go_ret2
      exact ⟨_, by first | rfl | (simp [*, aw_, av_] <;> rfl), rz (Kd.aG_ HO115.out (fun _ hk => trivial)), bq⟩
     rw [if_pos c26] at H
     have c26b0 : ((l0.length : Int) == 32) = true := beq_iff_eq.mpr c26
     have c26b1 : ((l0.length : Int) != 32) = false := bne_eq_false_iff_eq.mpr c26
     clear c26
     simp only [Option.some.injEq, Prod.mk.injEq] at H
     obtain ⟨rfl, rfl⟩ := H
     go_wp2
     go_ret2
     exact ⟨_, by first | rfl | (simp [*, aw_, av_] <;> rfl), by first | exact Kd.R_nil _ _ _ _ _ | exact Kd.N_nil _ _ _ _ _ | exact Kd.V_nil _ _ _ _ _ | exact Kd.Q_nil _ _ _ _ _ | exact Kd.S_nil _ _ _ _ _, bq⟩
    subst c19
    have H1 : (if 0 ≤ t107 then (if t107 < (t104.length : Int) then (some ((t104.set (t107 : Int).toNat (⟨a1_0, a1_1, a1_2⟩ : S43)), 0)) else (none)) else (none)) = some (r1, r2) := by rw [if_pos rfl] at H; exact H
    clear H
    have H := H1
    clear H1
    by_cases c20 : 0 ≤ t107
    rotate_left
    ·rw [if_neg c20] at H
     exact absurd H (by simp)
    rw [if_pos c20] at H
    have c20b0 : decide (0 ≤ t107) = true := decide_eq_true c20
    clear c20
    (first | rw [c20b0] | (simp only [i64_w, i32_w]; rw [c20b0]) | (simp only [c20b1, Bool.not_true, Bool.not_false]) | (simp only [c20b0, Bool.not_true, Bool.not_false]) | skip)
    by_cases c21 : t107 < (t104.length : Int)
    rotate_left
    ·rw [if_neg c21] at H
     exact absurd H (by simp)
    rw [if_pos c21] at H
    have c21b0 : decide (t107 < (t104.length : Int)) = true := decide_eq_true c21
    clear c21
    obtain ⟨y109, hy109⟩ : ∃ y_ : List (S43), y_ = (t104.set (t107 : Int).toNat (⟨a1_0, a1_1, a1_2⟩ : S43)) := ⟨_, rfl⟩
    replace H : (some (y109, 0)) = some (r1, r2) := by first | (rw [hy109]; with_reducible exact H) | (have H2_ := (Option.bind_some _ _).symm.trans H; rw [hy109]; with_reducible exact H2_) | (have H2_ := (Option.bind_some _ _).symm.trans H; with_reducible exact H2_) | with_reducible exact H | (rw [hy109]; exact H) | exact H
    have Ny109 := Aside0.mk hy109
    clear hy109
    simp only [Option.some.injEq, Prod.mk.injEq] at H
    obtain ⟨rfl, rfl⟩ := H
    obtain ⟨hcz23_0, hcz23_1, hcz23_2⟩ := cz3_ BK101.out
    obtain ⟨hfz23_0, hfz23_1, hfz23_2⟩ := fz3_ BK101.out
    have p22 : 0 ≤ (t107 : Int) := of_decide_eq_true (by assumption)
    have q22 : (t107 : Int) < ((t104.length : Int) : Int) := of_decide_eq_true (by assumption)
    obtain ⟨go22, co22, eo22, gb22, gl22, cl22, HG22⟩ := Kd.R_form HO106.out (by omega)
    (first | cases eo22 | (injection eo22 with ea_ en_ ec_; (first | subst ea_ | (injection ea_ with ea_; subst ea_)); subst ec_; clear en_))
    have GB22 := Aside0.mk gb22
    have GG22 := Aside0.mk HG22
    clear gb22 gl22 HG22
    obtain ⟨ce22, hcl22, hM22, hcc22, hfr22⟩ := Kd.R_elem HO106.out z43 (t107 : Int) p22 q22
    obtain rfl := k43_openM hM22
    have hx22_0 : w18.cell? ⟨go22, (t107 : Int).toNat * 3, none⟩ = some (.string ((aa_ t104 t107).f0)) := hcc22 0 _ rfl
    have hx22_1 : w18.cell? ⟨go22, (t107 : Int).toNat * 3 + 1, none⟩ = some (.string ((aa_ t104 t107).f1)) := hcc22 1 _ rfl
    have hx22_2 : w18.cell? ⟨go22, (t107 : Int).toNat * 3 + 2, none⟩ = some (.string ((aa_ t104 t107).f2)) := hcc22 2 _ rfl
    have hf22_0 : w18.frozen? ⟨go22, (t107 : Int).toNat * 3, none⟩ = false := hfr22 0
    have hf22_1 : w18.frozen? ⟨go22, (t107 : Int).toNat * 3 + 1, none⟩ = false := hfr22 1
    have hf22_2 : w18.frozen? ⟨go22, (t107 : Int).toNat * 3 + 2, none⟩ = false := hfr22 2
    clear hcl22 hcc22 hfr22 hM22
    replace p22 := eq_true p22
    replace q22 := eq_true q22
    have n_ := Aside0.mk (Kd.aG_ (ok' := (fun k_ => k_ ≠ gb101)) HO106.out (fun k_ hk => hk.2))
    clear HO106
    have HO106 := n_
    clear n_
    have HX24 := Aside0.mk (show Kd.R k43 43 w18 w.heap.size (fun k_ => k_ ≠ gb101) (.slice (some ⟨go22, 0, none⟩) t104.length co22) t104 from (rz HO106.out))
    obtain ⟨ce24, hcl24, hM24, hcc24, hfr24⟩ := Kd.R_elem HX24.out z43 (t107 : Int) (of_decide_eq_true (by assumption)) (by have h_ : (t107 : Int) < ((t104.length : Int) : Int) := of_decide_eq_true (by assumption); first | exact h_ | (have e_ := (Kd.aE_ HO106.out).1; omega) | simpa using h_)
    obtain rfl := k43_openM hM24
    have HP24 := Kd.R_seg HX24.out (t107 : Int) (of_decide_eq_true (by assumption)) (by have h_ : (t107 : Int) < ((t104.length : Int) : Int) := of_decide_eq_true (by assumption); first | exact h_ | (have e_ := (Kd.aE_ HO106.out).1; omega) | simpa using h_) (seg := [.string a1_0, .string a1_1, .string a1_2]) (j := 0) hcl24 hcc24 (show 3 ≤ 3 from by decide) (x' := (⟨a1_0, a1_1, a1_2⟩ : S43)) (cf_ _ _ _ (⟨a1_0, a1_1, a1_2⟩ : S43) ) (fun _ hk => hk)
    have hx24_0 := hcc24 0 _ rfl
    (try simp only [show (k43).sz = 3 from rfl, Nat.mul_one, Nat.add_zero] at hx24_0)
    have hf24_0 := hfr24 0
    (try simp only [show (k43).sz = 3 from rfl, Nat.mul_one, Nat.add_zero] at hf24_0)
    have hx24_1 := hcc24 1 _ rfl
    (try simp only [show (k43).sz = 3 from rfl, Nat.mul_one, Nat.add_zero] at hx24_1)
    have hf24_1 := hfr24 1
    (try simp only [show (k43).sz = 3 from rfl, Nat.mul_one, Nat.add_zero] at hf24_1)
    have hx24_2 := hcc24 2 _ rfl
    (try simp only [show (k43).sz = 3 from rfl, Nat.mul_one, Nat.add_zero] at hx24_2)
    have hf24_2 := hfr24 2
    (try simp only [show (k43).sz = 3 from rfl, Nat.mul_one, Nat.add_zero] at hf24_2)
    clear hcl24 hcc24 hfr24 hM24
    go_wp2_with (first | ((with_reducible refine gate_store (t := 43) (p := 35) rfl ?_); refine store_event (t := 43) (p := 35) (v := ?vo_w25) (w1 := (((w18.setCell ⟨go22, (t107 : Int).toNat * 3, none⟩ (.string a1_0)).setCell ⟨go22, (t107 : Int).toNat * 3 + 1, none⟩ (.string a1_1)).setCell ⟨go22, (t107 : Int).toNat * 3 + 2, none⟩ (.string a1_2))) ?hg ?ho ?hn ?hr ?_; (case ho => rfl); (case hg => rfl); (case hn => rfl); (case hr => (go_simp; try rfl)); intro w25 hw; have hg : w18.grownBy w25 (some go22) := (by rw [hw]; exact HP24.2); have hp_ : Kd.R k43 43 w25 w.heap.size (fun k_ => k_ ≠ gb101) (.slice (some ⟨go22, 0, none⟩) t104.length co22) y109 := (by rw [hw, Ny109.out]; exact HP24.1); clear HP24; replace BK101 := Aside0.mk (bH_ (g := gb101) (o := .cells #[.string a1_0, .string a1_1, .string a1_2] 43 (0, 0)) (kz BK101.out) hg (Kd.cv_ HO106.out (fun _ hk => hk))); replace HO106 := Aside0.mk (hp_); replace HB := Aside0.mk ((by rw [hw]; exact ab_ (ab_ (ab_ (HB.out) GB22.out) GB22.out) GB22.out : Below w.heap.size w w25)); clear hg hw hp_))
    go_ret2
    exact ⟨_, by first | rfl | (simp [*, aw_, av_] <;> rfl), rz (Kd.aG_ HO106.out (fun _ hk => trivial)), bq⟩
   subst c12
   have H1 : (some (([] : List (S43)), 1)) = some (r1, r2) := by rw [if_pos rfl] at H; exact H
   clear H
   have H := H1
   clear H1
   simp only [Option.some.injEq, Prod.mk.injEq] at H
   obtain ⟨rfl, rfl⟩ := H
   go_wp2
   go_ret2
   exact ⟨_, by first | rfl | (simp [*, aw_, av_] <;> rfl), by first | exact Kd.R_nil _ _ _ _ _ | exact Kd.N_nil _ _ _ _ _ | exact Kd.V_nil _ _ _ _ _ | exact Kd.Q_nil _ _ _ _ _ | exact Kd.S_nil _ _ _ _ _, bq⟩
def aO_.l0 : Nat → List ByteArray → List (S43) → Int → Option ((List (S43)))
 | 0, _, _, _ => none
 | k + 1, x3, x4, x5 => if x5 < (wrap64 ((x3.length : Int) - 1)) then (if 0 ≤ x5 then (if x5 < (x3.length : Int) then ((ax_.f k (rdOf ByteArray.empty x3 x5)).bind fun bt108 => (if bt108.2.2.2 = 0 then ((bk_.f k x4 bt108.1 bt108.2.1 bt108.2.2.1).bind fun bt113 => (if bt113.2 = 0 then (aO_.l0 k x3 bt113.1 (wrap64 (x5 + 1))) else (aO_.l0 k x3 x4 (wrap64 (x5 + 1))))) else (aO_.l0 k x3 x4 (wrap64 (x5 + 1))))) else (none)) else (none)) else (some x4)
def aO_.f (k : Nat) (a0 : ByteArray) : Option ((List (S43))) := (strings_Split.f a0 (⟨#[10]⟩ : ByteArray)).bind fun t101 => (aO_.l0 k t101 (([] : List (S43))) 1)
set_option maxHeartbeats 8000000 in
set_option maxRecDepth 100000 in
theorem aO_.calls (k : Nat) (a0 : ByteArray) (r : List (S43)) (w : World) (hTab_ : Tab_ w) (h : aO_.f k a0 = some r) :
  Calls Tryd.prog 18 #[.string a0] w fun e w' => ∃ v0_ : Value, e = .returned (v0_) ∧ Kd.R k43 43 w' w.heap.size (fun _ => True) v0_ r ∧ Below w.heap.size w w' := by
 have hu43 := Tryd.underlying43
 have HTab_ := Aside0.mk hTab_
 clear hTab_
 have HB := Aside0.mk (Below.refl w.heap.size w)
 have H : ((strings_Split.f a0 (⟨#[10]⟩ : ByteArray)).bind fun t101 => (aO_.l0 k t101 (([] : List (S43))) 1)) = some r := h
 clear h
 replace H := Option.bind_eq_some_iff.mp H
 obtain ⟨t101, A20, H⟩ := H
 (try dsimp only at H)
 have A2 := Aside0.mk A20
 clear A20
 obtain ⟨y104, hy104⟩ : ∃ y_ : List (S43), y_ = (([] : List (S43))) := ⟨_, rfl⟩
 replace H : (aO_.l0 k t101 y104 1) = some r := by first | (rw [hy104]; with_reducible exact H) | (have H2_ := (Option.bind_some _ _).symm.trans H; rw [hy104]; with_reducible exact H2_) | (have H2_ := (Option.bind_some _ _).symm.trans H; with_reducible exact H2_) | with_reducible exact H | (rw [hy104]; exact H) | exact H
 have Ny104 := Aside0.mk hy104
 clear hy104
 have H' := Aside0.mk H
 clear H
 go_enter Tryd.func18, Tryd.ntmps18
 go_wp2_with (first | ((with_reducible refine al_ (f := 28) rfl ?_); refine bf_ (some 11) rfl rfl Tryd.func28 (by kernel_rfl) rfl #[.string a0, .string (⟨#[10]⟩ : ByteArray)] rfl (by first | rfl | (simp only [lma_, lmc_, lmn_]; first | done | rfl)) ?_; (with_reducible refine (strings_Split.calls a0 (⟨#[10]⟩ : ByteArray) t101 _ ?side1 A2.out).mono ?_); (case side1 => exact cN_ HTab_.out (bz HB.out)); rintro e w3 ⟨v102, rfl, ho0, hb⟩; refine ⟨_, rfl, ?_⟩; have HO103 := Aside0.mk (Kd.bw_ ho0 (ak_ (bz HB.out))); replace HB := Aside0.mk (ah_ (bz HB.out) hb); (try clear hb); (try clear ho0)) | ((with_reducible refine aS_ (N := 12) rfl ?_); refine Kd.R_lit k43 _ 43 ?hg (N := 12) ?hd (xs := ([] : List (S43))) (inner := []) (ok := fun _ => True) (okp := fun _ => True) ?hr ?hp (fun _ hk => hk) trivial (Below.refl _ _) (Nat.le_refl _) (by simp) ?_; (case hd => rfl); (case hg => rfl); (case hr => (go_simp; try rfl)); (case hp => exact (Reps.none _ _)); intro v105 w4 ho5 hb hg_ hnew_; clear hg_ hnew_; (first | rw [← Ny104.out] at ho5 | (simp only [Int.reduceToNat] at ho5; rw [← Ny104.out] at ho5)); replace HO103 := Aside0.mk (Kd.bI_ (rz HO103.out) hb); have HO106 := Aside0.mk (Kd.bw_ ho5 (ak_ (bz HB.out))); replace HB := Aside0.mk (ah_ (bz HB.out) hb); clear hb ho5))
 (try simp only [Act.put, lsa_, ls0_, ls1_])
 go_loopg [4, 5] k (fun kq v4 v5 w' => ∃ (x4_1 : List (S43)) (x5_1 : Int), v5 = .int .i64 x5_1 ∧ Aside0 (aO_.l0 kq t101 x4_1 x5_1 = some r) ∧ Aside0 (kq ≤ k) ∧ Aside0 (Kd.R Kd.string 9 w' w.heap.size (fun _ => True) v102 t101) ∧ Aside0 (Kd.R k43 43 w' w.heap.size (fun _ => True) v4 x4_1) ∧ Aside0 (Below w.heap.size w w'))
 case atStart => exact ⟨(y104), (1), (by first | rfl | (simp; done) | (simp [*]; done)), H', ⟨Nat.le_refl _⟩, ⟨rz HO103.out⟩, ⟨rz HO106.out⟩, ⟨bz HB.out⟩⟩
 case round =>
  clear H'
  obtain ⟨x4_1, x5_1, rfl, HA, HK1, HO_3, HO_4, HB⟩ := hrel
  cases gk with
  | zero => exact absurd HA.out (by simp [aO_.l0])
  | succ k1 =>
   have H := HA.out
   clear HA
   simp only [aO_.l0] at H
   by_cases c6 : x5_1 < (wrap64 ((t101.length : Int) - 1))
   rotate_left
   ·rw [if_neg c6] at H
    have c6b0 : decide (x5_1 < (wrap64 ((t101.length : Int) - 1))) = false := decide_eq_false c6
    clear c6
    obtain rfl := Option.some.inj H
    obtain ⟨Ao22, co22, eo22⟩ := Kd.bL_ HO_3.out
    subst eo22
    go_wp2
    go_ret
    exact ⟨_, by first | rfl | (simp [*, aw_, av_] <;> rfl), rz HO_4.out, bz HB.out⟩
   rw [if_pos c6] at H
   have c6b0 : decide (x5_1 < (wrap64 ((t101.length : Int) - 1))) = true := decide_eq_true c6
   clear c6
   by_cases c7 : 0 ≤ x5_1
   rotate_left
   ·rw [if_neg c7] at H
    exact absurd H (by simp)
   rw [if_pos c7] at H
   have c7b0 : decide (0 ≤ x5_1) = true := decide_eq_true c7
   clear c7
   by_cases c8 : x5_1 < (t101.length : Int)
   rotate_left
   ·rw [if_neg c8] at H
    exact absurd H (by simp)
   rw [if_pos c8] at H
   have c8b0 : decide (x5_1 < (t101.length : Int)) = true := decide_eq_true c8
   clear c8
   replace H := Option.bind_eq_some_iff.mp H
   obtain ⟨⟨t108, t109, t110, t111⟩, A90, H⟩ := H
   (try dsimp only at H)
   have A9 := Aside0.mk A90
   clear A90
   have HC10 := Aside0.mk H
   clear H
   obtain ⟨Ao11, co11, eo11⟩ := Kd.bL_ HO_3.out
   subst eo11
   have p107 : 0 ≤ (x5_1 : Int) := of_decide_eq_true (by assumption)
   have q107 : x5_1 < (t101.length : Int) := of_decide_eq_true (by assumption)
   obtain ⟨ad107, e107, hx107_0⟩ := Kd.cc_ (Kd.aE_ HO_3.out).2.2 x5_1 p107 q107
   cases e107
   replace p107 := eq_true p107
   replace q107 := eq_true q107
   go_upto_if 29 with (first | ((with_reducible refine al_ (f := 29) rfl ?_); refine bf_ (some 25) rfl rfl Tryd.func29 (by kernel_rfl) rfl #[.string (rdOf ByteArray.empty t101 x5_1)] rfl (by first | rfl | (simp only [lma_, lmc_, lmn_]; first | done | rfl)) ?_; (with_reducible refine (ax_.calls k1 (rdOf ByteArray.empty t101 x5_1) t108 t109 t110 t111 _ ?side1 A9.out).mono ?_); (case side1 => exact cN_ HTab_.out (bz HB.out)); rintro e w12 ⟨rfl, hb⟩; refine ⟨_, rfl, ?_⟩; replace HO_3 := Aside0.mk (Kd.bI_ (rz HO_3.out) hb); replace HO_4 := Aside0.mk (Kd.bI_ (rz HO_4.out) hb); replace HB := Aside0.mk (ah_ (bz HB.out) hb); (try clear hb)) | ((with_reducible refine aS_ (N := 6) rfl ?_); refine bB_ ?hg (N := 6) ?hd (cs := #[.string (⟨#[]⟩ : ByteArray), .string (⟨#[]⟩ : ByteArray), .string (⟨#[]⟩ : ByteArray)]) (t := 43) ?hr ?_; (case hd => rfl); (case hg => rfl); (case hr => (go_simp; try rfl)); intro gb112 hg w13 hbox hb; replace HO_3 := Aside0.mk (Kd.bI_ (rz HO_3.out) hb); replace HO_4 := Aside0.mk (Kd.bI_ (Kd.R_elderB (rz HO_4.out) gb112 (Nat.le_of_eq hg.symm)) hb); have BK112 := Aside0.mk (hbox); have GW112 := Aside0.mk ((by rw [hg]; exact (ak_ (bz HB.out)) : w.heap.size ≤ gb112)); have GE112 := GW112; replace HB := Aside0.mk (ah_ (bz HB.out) hb); clear hb hbox hg; obtain ⟨hcz14_0, hcz14_1, hcz14_2⟩ := cz3_ BK112.out; obtain ⟨hfz14_0, hfz14_1, hfz14_2⟩ := fz3_ BK112.out))
   (try simp only [Act.put, lsa_, ls0_, ls1_])
   have H := HC10.out
   clear HC10
   by_cases c15 : t111 = 0
   rotate_left
   ·rw [if_neg c15] at H
    have c15b0 : (t111 == 0) = false := beq_eq_false_iff_ne.mpr c15
    have c15b1 : (t111 != 0) = true := bne_iff_ne.mpr c15
    (first | rw [c15b0] | (simp only [i64_w, i32_w]; rw [c15b0]) | (simp only [c15b1, Bool.not_true, Bool.not_false]) | (simp only [c15b0, Bool.not_true, Bool.not_false]) | skip)
    have H' := Aside0.mk H
    clear H
    go_wp2
    go_roundg k1
    case measure => have := HK1.out; omega
    case rel => exact ⟨(x4_1), (wrap64 (x5_1 + 1)), (by first | rfl | (simp; done) | (simp [*]; done)), H', ⟨by have := HK1.out; omega⟩, ⟨rz (Kd.aG_ (Kd.R_far (p := ⟨gb112, 2, none⟩) (Kd.R_far (p := ⟨gb112, 1, none⟩) (Kd.R_far (p := ⟨gb112, 0, none⟩) (Kd.bY_ HO_3.out BK112.out (by decide)) (fun _ hk => hk.2) (.string t108)) (fun _ hk => hk.2) (.string t109)) (fun _ hk => hk.2) (.string t110)) (fun _ hk => trivial))⟩, ⟨rz (Kd.aG_ (Kd.R_far (p := ⟨gb112, 2, none⟩) (Kd.R_far (p := ⟨gb112, 1, none⟩) (Kd.R_far (p := ⟨gb112, 0, none⟩) (Kd.aG_ HO_4.out (fun k_ hk => (⟨hk, hk.2⟩ : _ ∧ k_ ≠ gb112))) (fun _ hk => hk.2) (.string t108)) (fun _ hk => hk.2) (.string t109)) (fun _ hk => hk.2) (.string t110)) (fun _ hk => trivial))⟩, ⟨bq⟩⟩
   rw [if_pos c15] at H
   have c15b0 : (t111 == 0) = true := beq_iff_eq.mpr c15
   have c15b1 : (t111 != 0) = false := bne_eq_false_iff_eq.mpr c15
   clear c15
   (first | rw [c15b0] | (simp only [i64_w, i32_w]; rw [c15b0]) | (simp only [c15b1, Bool.not_true, Bool.not_false]) | (simp only [c15b0, Bool.not_true, Bool.not_false]) | skip)
   replace H := Option.bind_eq_some_iff.mp H
   obtain ⟨⟨t113, t116⟩, A160, H⟩ := H
   (try dsimp only at H)
   have A16 := Aside0.mk A160
   clear A160
   have HC17 := Aside0.mk H
   clear H
   obtain ⟨hcz18_0, hcz18_1, hcz18_2⟩ := cz3_ BK112.out
   obtain ⟨hfz18_0, hfz18_1, hfz18_2⟩ := fz3_ BK112.out
   obtain ⟨Ao19, co19, eo19⟩ := Kd.bL_ HO_4.out
   subst eo19
   go_upto_if 37 with (first | ((with_reducible refine al_ (f := 40) rfl ?_); refine bf_ (some 33) rfl rfl Tryd.func40 (by kernel_rfl) rfl #[.slice Ao19 x4_1.length co19, .agg #[.string t108, .string t109, .string t110]] rfl (by first | rfl | (simp only [lma_, lmc_, lmn_]; first | done | rfl)) ?_; (with_reducible refine (bk_.calls k1 _ _ x4_1 t108 t109 t110 t113 t116 _ ?side1 ?side2 A16.out).mono ?_); (case side1 => refine (Kd.aE_ (e := 43) (base := w.heap.size) (ok := fun k_ => (True ∧ k_ ≠ gb112)) (n := x4_1.length) (c := co19) ?_).2.2; exact (rz (Kd.aG_ (Kd.R_far (p := ⟨gb112, 2, none⟩) (Kd.R_far (p := ⟨gb112, 1, none⟩) (Kd.R_far (p := ⟨gb112, 0, none⟩) (Kd.aG_ HO_4.out (fun k_ hk => (⟨hk, hk.2⟩ : _ ∧ k_ ≠ gb112))) (fun _ hk => hk.2) (.string t108)) (fun _ hk => hk.2) (.string t109)) (fun _ hk => hk.2) (.string t110)) (fun _ h_ => h_.1)))); (case side2 => exact (Kd.aE_ HO_4.out).2.1); rintro e w20 ⟨v114, rfl, ho0, hb⟩; refine ⟨_, rfl, ?_⟩; replace HO_3 := Aside0.mk (Kd.bI_ (rz (Kd.aG_ (Kd.R_far (p := ⟨gb112, 2, none⟩) (Kd.R_far (p := ⟨gb112, 1, none⟩) (Kd.R_far (p := ⟨gb112, 0, none⟩) (Kd.bY_ HO_3.out BK112.out (by decide)) (fun _ hk => hk.2) (.string t108)) (fun _ hk => hk.2) (.string t109)) (fun _ hk => hk.2) (.string t110)) (fun _ h_ => h_.1))) hb); have HO115 := Aside0.mk (Kd.bw_ (Kd.R_newB (Kd.bE_ ho0 (Kd.R_lt (rz (Kd.aG_ (Kd.R_far (p := ⟨gb112, 2, none⟩) (Kd.R_far (p := ⟨gb112, 1, none⟩) (Kd.R_far (p := ⟨gb112, 0, none⟩) (Kd.aG_ HO_4.out (fun k_ hk => (⟨hk, hk.2⟩ : _ ∧ k_ ≠ gb112))) (fun _ hk => hk.2) (.string t108)) (fun _ hk => hk.2) (.string t109)) (fun _ hk => hk.2) (.string t110)) (fun _ h_ => h_.1))))) (g := gb112) (o := .cells #[.string t108, .string t109, .string t110] 43 (0, 0)) (by exact kj3_2 (kj3_1 (kj3_0 (kz BK112.out))))) (ak_ (bq))); replace HO_4 := Aside0.mk (Kd.aW_ (rz (Kd.aG_ (Kd.R_far (p := ⟨gb112, 2, none⟩) (Kd.R_far (p := ⟨gb112, 1, none⟩) (Kd.R_far (p := ⟨gb112, 0, none⟩) (Kd.aG_ HO_4.out (fun k_ hk => (⟨hk, hk.2⟩ : _ ∧ k_ ≠ gb112))) (fun _ hk => hk.2) (.string t108)) (fun _ hk => hk.2) (.string t109)) (fun _ hk => hk.2) (.string t110)) (fun _ h_ => h_.1))) (Kd.bs_ ho0) hb); replace BK112 := Aside0.mk (az_ (g := gb112) (o := .cells #[.string t108, .string t109, .string t110] 43 (0, 0)) (by exact kj3_2 (kj3_1 (kj3_0 (kz BK112.out)))) hb); replace HB := Aside0.mk (ah_ (bq) hb); (try clear hb); (try clear ho0)))
   (try simp only [Act.put, lsa_, ls0_, ls1_])
   have H := HC17.out
   clear HC17
   by_cases c21 : t116 = 0
   rotate_left
   ·rw [if_neg c21] at H
    have c21b0 : (t116 == 0) = false := beq_eq_false_iff_ne.mpr c21
    have c21b1 : (t116 != 0) = true := bne_iff_ne.mpr c21
    (first | rw [c21b0] | (simp only [i64_w, i32_w]; rw [c21b0]) | (simp only [c21b1, Bool.not_true, Bool.not_false]) | (simp only [c21b0, Bool.not_true, Bool.not_false]) | skip)
    have H' := Aside0.mk H
    clear H
    go_wp2
    go_roundg k1
    case measure => have := HK1.out; omega
    case rel => exact ⟨(x4_1), (wrap64 (x5_1 + 1)), (by first | rfl | (simp; done) | (simp [*]; done)), H', ⟨by have := HK1.out; omega⟩, ⟨rz HO_3.out⟩, ⟨rz (Kd.aG_ HO_4.out (fun _ hk => trivial))⟩, ⟨bq⟩⟩
   rw [if_pos c21] at H
   have c21b0 : (t116 == 0) = true := beq_iff_eq.mpr c21
   have c21b1 : (t116 != 0) = false := bne_eq_false_iff_eq.mpr c21
   clear c21
   (first | rw [c21b0] | (simp only [i64_w, i32_w]; rw [c21b0]) | (simp only [c21b1, Bool.not_true, Bool.not_false]) | (simp only [c21b0, Bool.not_true, Bool.not_false]) | skip)
   have H' := Aside0.mk H
   clear H
   go_wp2
   go_roundg k1
   case measure => have := HK1.out; omega
   case rel => exact ⟨(t113), (wrap64 (x5_1 + 1)), (by first | rfl | (simp; done) | (simp [*]; done)), H', ⟨by have := HK1.out; omega⟩, ⟨rz HO_3.out⟩, ⟨rz (Kd.aG_ HO115.out (fun _ hk => trivial))⟩, ⟨bq⟩⟩
def cC_.f (l0 : List Int) (l1 : List Int) : Option (Bool) := if (l0.length : Int) > 1048576 then (some true) else (some (decide ((l1.length : Int) > 1048576)))
set_option maxHeartbeats 8000000 in
set_option maxRecDepth 100000 in
theorem cC_.calls (A0 : Option Addr) (c0 : Nat) (l0 : List Int) (A1 : Option Addr) (c1 : Nat) (l1 : List Int) (r : Bool) (w : World) (hr0 : Kd.C (Kd.int .u8) w A0 l0.length l0) (hc0 : l0.length ≤ c0) (hr1 : Kd.C (Kd.int .u8) w A1 l1.length l1) (hc1 : l1.length ≤ c1) (h : cC_.f l0 l1 = some r) :
  Calls Tryd.prog 19 #[.slice A0 l0.length c0, .slice A1 l1.length c1] w fun e w' => e = .returned (.bool r) ∧ an_ w w' := by
 have HR0 := Aside0.mk hr0
 have HC0 := Aside0.mk hc0
 clear hr0 hc0
 have HR1 := Aside0.mk hr1
 have HC1 := Aside0.mk hc1
 clear hr1 hc1
 have H : (if (l0.length : Int) > 1048576 then (some true) else (some (decide ((l1.length : Int) > 1048576)))) = some r := h
 clear h
 by_cases c3 : (l0.length : Int) > 1048576
 rotate_left
 ·rw [if_neg c3] at H
  have c3b0 : decide (1048576 < (l0.length : Int)) = false := decide_eq_false c3
  have c3b1 : decide (1048576 < l0.length) = false := decide_eq_false (by omega)
  clear c3
  obtain rfl := Option.some.inj H
  go_enter Tryd.func19, Tryd.ntmps19
  go_wp2
  go_ret
  exact ⟨by first | rfl | (simp; done) | (simp [*]; done), by repeat (first | exact an_.refl _ | apply an_.step)⟩
 rw [if_pos c3] at H
 have c3b0 : decide (1048576 < (l0.length : Int)) = true := decide_eq_true c3
 have c3b1 : decide (1048576 < l0.length) = true := decide_eq_true (by omega)
 clear c3
 obtain rfl := Option.some.inj H
 go_enter Tryd.func19, Tryd.ntmps19
 go_wp2
 go_ret
 exact ⟨by first | rfl | (simp; done) | (simp [*]; done), by repeat (first | exact an_.refl _ | apply an_.step)⟩
def IsS81 (w0 W : World) (g : Nat) (f0 : List Int) (f1 : Int) (f2 : Int) : Prop := ∃ A0 c0, W.heap[g]? = some (.cells #[.slice A0 f0.length c0, .int .i64 f1, .int .u64 f2] 81 (0, 0)) ∧ w0.heap.size ≤ g ∧ Kd.C (Kd.int .u8) w0 A0 f0.length f0
theorem IsS81.grown {w0 W : World} {g : Nat} {f0 : List Int} {f1 : Int} {f2 : Int} {W1 : World} {row : Option Nat} (h : IsS81 w0 W g f0 f1 f2) (hw : W.grownBy W1 row) (hne : some g ≠ row) : IsS81 w0 W1 g f0 f1 f2 := by
 obtain ⟨A0, c0, hb, hg, hr0⟩ := h
 exact ⟨A0, c0, bH_ hb hw hne, hg, hr0⟩
theorem IsS81.own_neN {w0 W : World} {g : Nat} {f0 : List Int} {f1 : Int} {f2 : Int} {α : Type} {d : Kd α} {e : Nat} {base : Nat} {ok : Nat → Prop} {v : Value} {xs : List α} (h : IsS81 w0 W g f0 f1 f2) (ho : Kd.N d e W base ok v xs) (ht : e ≠ 81) : some g ≠ v.ownBlock := by
 obtain ⟨A0, c0, hb, hg, hr0⟩ := h
 exact Kd.N_ne ho hb ht
theorem IsS81.fresh {w0 W : World} {g : Nat} {f0 : List Int} {f1 : Int} {f2 : Int} (h : IsS81 w0 W g f0 f1 f2) : ∀ k, W.heap.size ≤ k → k ≠ g := by
 obtain ⟨A0, c0, hb, hg, hr0⟩ := h
 exact Kd.cz_ hb
theorem IsS81.kept {w0 W : World} {g : Nat} {f0 : List Int} {f1 : Int} {f2 : Int} {W1 : World} {S : Nat → Prop} (h : IsS81 w0 W g f0 f1 f2) (hk : Kept W W1 S) (hne : ¬ S g) : IsS81 w0 W1 g f0 f1 f2 := by
 obtain ⟨A0, c0, hb, hg, hr0⟩ := h
 exact ⟨A0, c0, blk_kept hb hk hne, hg, hr0⟩
theorem IsS81.below {w0 W : World} {g : Nat} {f0 : List Int} {f1 : Int} {f2 : Int} {W1 : World} (h : IsS81 w0 W g f0 f1 f2) (hw : Below W.heap.size W W1) : IsS81 w0 W1 g f0 f1 f2 := h.grown (cM_ hw none) (by simp)
theorem IsS81.alloc {w0 W : World} {g : Nat} {f0 : List Int} {f1 : Int} {f2 : Int} (h : IsS81 w0 W g f0 f1 f2) (o : Obj) : IsS81 w0 (W.alloc o) g f0 f1 f2 := h.below (bA_ (Below.refl _ _) o)
theorem IsS81.drewN {w0 W : World} {g : Nat} {f0 : List Int} {f1 : Int} {f2 : Int} (h : IsS81 w0 W g f0 f1 f2) (m : Nat) : IsS81 w0 (W.drewN m) g f0 f1 f2 := h
theorem IsS81.drew {w0 W : World} {g : Nat} {f0 : List Int} {f1 : Int} {f2 : Int} (h : IsS81 w0 W g f0 f1 f2) : IsS81 w0 W.drew g f0 f1 f2 := h
theorem IsS81.at_ {w0 W : World} {g : Nat} {f0 : List Int} {f1 : Int} {f2 : Int} {w' : World} {m : Nat} (hq : W.drewN m = w') (h : IsS81 w0 W g f0 f1 f2) : IsS81 w0 w' g f0 f1 f2 := by subst hq; exact IsS81.drewN h m
theorem IsS81.apart {w0 W : World} {g : Nat} {f0 : List Int} {f1 : Int} {f2 : Int} {α : Type} {d : Kd α} {e : Nat} {base : Nat} {ok : Nat → Prop} {v : Value} {xs : List α} (h : IsS81 w0 W g f0 f1 f2) (ho : d.R e W base ok v xs) (ht : ∀ q, q ∈ e :: d.E → q ≠ 81) : d.R e W base (fun k => ok k ∧ k ≠ g) v xs := by
 obtain ⟨A0, c0, hb, hg, hr0⟩ := h
 exact Kd.bY_ ho hb ht
theorem IsS81.own_ne {w0 W : World} {g : Nat} {f0 : List Int} {f1 : Int} {f2 : Int} {α : Type} {d : Kd α} {e : Nat} {base : Nat} {ok : Nat → Prop} {v : Value} {xs : List α} (h : IsS81 w0 W g f0 f1 f2) (ho : d.R e W base ok v xs) (ht : e ≠ 81) : some g ≠ v.ownBlock := by
 obtain ⟨A0, c0, hb, hg, hr0⟩ := h
 exact Kd.R_ne ho hb ht
theorem IsS81.lt {w0 W : World} {g : Nat} {f0 : List Int} {f1 : Int} {f2 : Int} (h : IsS81 w0 W g f0 f1 f2) : g < W.heap.size := by
 obtain ⟨A0, c0, hb, hg, hr0⟩ := h
 exact bX_ hb
theorem IsS81.ge {w0 W : World} {g : Nat} {f0 : List Int} {f1 : Int} {f2 : Int} (h : IsS81 w0 W g f0 f1 f2) : w0.heap.size ≤ g := by
 obtain ⟨A0, c0, hb, hg, hr0⟩ := h
 exact hg
theorem IsS81.far {w0 W : World} {g : Nat} {f0 : List Int} {f1 : Int} {f2 : Int} {p : Addr} (h : IsS81 w0 W g f0 f1 f2) (hne : g ≠ p.block) (u : Value) : IsS81 w0 (W.setCell p u) g f0 f1 f2 := by
 obtain ⟨A0, c0, hb, hg, hr0⟩ := h
 exact ⟨A0, c0, blk_far hb hne u, hg, hr0⟩
theorem cellS81_0 {W : World} {g : Nat} {A0 : Option Addr} {c0 : Nat} {f0 : List Int} {f1 : Int} {f2 : Int} (h : W.heap[g]? = some (.cells #[.slice A0 f0.length c0, .int .i64 f1, .int .u64 f2] 81 (0, 0))) : W.cell? ⟨g, 0, none⟩ = some (.slice A0 f0.length c0) := (ar_ h 0).trans rfl
theorem cellS81_1 {W : World} {g : Nat} {A0 : Option Addr} {c0 : Nat} {f0 : List Int} {f1 : Int} {f2 : Int} (h : W.heap[g]? = some (.cells #[.slice A0 f0.length c0, .int .i64 f1, .int .u64 f2] 81 (0, 0))) : W.cell? ⟨g, 1, none⟩ = some (.int .i64 f1) := (ar_ h 1).trans rfl
theorem IsS81.set_1 {w0 W : World} {g : Nat} {f0 : List Int} {f1 : Int} {f2 : Int} (h : IsS81 w0 W g f0 f1 f2) (x : Int) : IsS81 w0 (W.setCell ⟨g, 1, none⟩ (.int .i64 x)) g f0 x f2 := by
 obtain ⟨A0, c0, hb, hg, hr0⟩ := h
 exact ⟨A0, c0, by simpa using blk_set hb 1 (.int .i64 x), hg, hr0⟩
theorem cellS81_2 {W : World} {g : Nat} {A0 : Option Addr} {c0 : Nat} {f0 : List Int} {f1 : Int} {f2 : Int} (h : W.heap[g]? = some (.cells #[.slice A0 f0.length c0, .int .i64 f1, .int .u64 f2] 81 (0, 0))) : W.cell? ⟨g, 2, none⟩ = some (.int .u64 f2) := (ar_ h 2).trans rfl
theorem IsS81.set_2 {w0 W : World} {g : Nat} {f0 : List Int} {f1 : Int} {f2 : Int} (h : IsS81 w0 W g f0 f1 f2) (x : Int) : IsS81 w0 (W.setCell ⟨g, 2, none⟩ (.int .u64 x)) g f0 f1 x := by
 obtain ⟨A0, c0, hb, hg, hr0⟩ := h
 exact ⟨A0, c0, by simpa using blk_set hb 2 (.int .u64 x), hg, hr0⟩
def da_.f (l0 : List Int) : Option (List Int × Int × Int) := some (l0, 0, 0)
set_option maxHeartbeats 8000000 in
set_option maxRecDepth 100000 in
theorem da_.calls (A0 : Option Addr) (c0 : Nat) (l0 : List Int) (r1 : List Int) (r2 : Int) (r3 : Int) (w0 w : World) (hB : Below w0.heap.size w0 w) (hr0 : Kd.C (Kd.int .u8) w0 A0 l0.length l0) (hc0 : l0.length ≤ c0) (h : da_.f l0 = some (r1, r2, r3)) :
  Calls Tryd.prog 41 #[.slice A0 l0.length c0] w fun e w' => ∃ g_ : Nat, e = .returned (.pointer (some ⟨g_, 0, none⟩)) ∧ IsS81 w0 w' g_ r1 r2 r3 ∧ Below w0.heap.size w0 w' ∧ Below w.heap.size w w' := by
 have hu81 := Tryd.underlying81
 have HR0 := Aside0.mk hr0
 have HC0 := Aside0.mk hc0
 clear hr0 hc0
 have HBW := Aside0.mk (Below.refl w.heap.size w)
 have HW0 := Aside0.mk hB.size
 have HB := Aside0.mk hB
 clear hB
 have H : (some (l0, 0, 0)) = some (r1, r2, r3) := h
 clear h
 simp only [Option.some.injEq, Prod.mk.injEq] at H
 obtain ⟨rfl, rfl, rfl⟩ := H
 go_enter Tryd.func41, Tryd.ntmps41
 go_wp2_with (first | ((with_reducible refine aS_ (N := 5) rfl ?_); refine bB_ ?hg (N := 5) ?hd (cs := #[.slice A0 l0.length c0, .int .i64 0, .int .u64 0]) (t := 81) ?hr ?_; (case hd => rfl); (case hg => rfl); (case hr => (go_simp; try rfl)); intro gb101 hg w2 hbox hb; replace HB := Aside0.mk (ah_ (bz HB.out) hb); have BK101 := Aside0.mk (hbox); have GW101 := Aside0.mk ((by rw [hg]; exact (ak_ (by repeat (first | (with_reducible first | exact HBW.out | apply bA_ | apply bN_ | apply bD_) | exact HBW.out))) : w.heap.size ≤ gb101)); have GE101 := Aside0.mk ((Nat.le_trans HW0.out (by rw [hg]; exact (ak_ (by repeat (first | (with_reducible first | exact HBW.out | apply bA_ | apply bN_ | apply bD_) | exact HBW.out))) : w.heap.size ≤ gb101) : w0.heap.size ≤ gb101)); replace HBW := Aside0.mk (ah_ HBW.out hb); clear hb hbox hg))
 go_ret
 exact ⟨_, rfl, (show IsS81 w0 _ gb101 l0 0 0 from ⟨_, _, by (with_reducible repeat (first | refine bj_ ?_ _ | refine aX_ ?_ | refine aU_ ?_ _)); exact BK101.out, GE101.out, HR0.out⟩), bq, by repeat (first | (with_reducible first | exact HBW.out | apply bA_ | apply bN_ | apply bD_ | refine ab_ ?_ GW101.out) | exact HBW.out)⟩
def bF_.f (s0_0 : List Int) (s0_1 : Int) (s0_2 : Int) : Option (Int × Int × Int) := if s0_1 < (s0_0.length : Int) then (if 0 ≤ s0_1 then (if (wrap64 (s0_1 + 1)) ≤ (s0_0.length : Int) then (some (wrap64 (rd s0_0 s0_1), wrap64 (s0_1 + 1), IntKind.u64.wrap ((IntKind.u64.wrap ((IntKind.u64.wrap (s0_2 * 6364136223846793005)) + (IntKind.u64.wrap (wrap64 (rd s0_0 s0_1))))) + 1442695040888963407))) else (some (wrap64 (Go.bits .and .u64 ((IntKind.u64.wrap ((IntKind.u64.wrap ((IntKind.u64.wrap (s0_2 * 6364136223846793005)) + (IntKind.u64.wrap (wrap64 (rd s0_0 s0_1))))) + 1442695040888963407)) / 1099511627776) 255), wrap64 (s0_1 + 1), IntKind.u64.wrap ((IntKind.u64.wrap ((IntKind.u64.wrap (s0_2 * 6364136223846793005)) + (IntKind.u64.wrap (wrap64 (rd s0_0 s0_1))))) + 1442695040888963407)))) else (none)) else (if (wrap64 (s0_1 + 1)) ≤ (s0_0.length : Int) then (some (0, wrap64 (s0_1 + 1), IntKind.u64.wrap ((IntKind.u64.wrap ((IntKind.u64.wrap (s0_2 * 6364136223846793005)))) + 1442695040888963407))) else (some (wrap64 (Go.bits .and .u64 ((IntKind.u64.wrap ((IntKind.u64.wrap ((IntKind.u64.wrap (s0_2 * 6364136223846793005)))) + 1442695040888963407)) / 1099511627776) 255), wrap64 (s0_1 + 1), IntKind.u64.wrap ((IntKind.u64.wrap ((IntKind.u64.wrap (s0_2 * 6364136223846793005)))) + 1442695040888963407))))
set_option maxHeartbeats 8000000 in
set_option maxRecDepth 100000 in
theorem bF_.calls (g : Nat) (s0_0 : List Int) (s0_1 : Int) (s0_2 : Int) (r1 : Int) (r2 : Int) (r3 : Int) (w0 w : World) (hI : IsS81 w0 w g s0_0 s0_1 s0_2) (hB : Below w0.heap.size w0 w) (h : bF_.f s0_0 s0_1 s0_2 = some (r1, r2, r3)) :
  Calls Tryd.prog 83 #[.pointer (some ⟨g, 0, none⟩)] w fun e w' => e = .returned (.int .i64 r1) ∧ IsS81 w0 w' g s0_0 r2 r3 ∧ Below w0.heap.size w0 w' ∧ ac_ w w' g none := by
 have HI0 := Aside0.mk hI
 have HK := Aside0.mk (ac_.refl w g none)
 have HL := Aside0.mk hB.size
 clear hI
 have HW0 := Aside0.mk hB.size
 have HB := Aside0.mk hB
 clear hB
 have H : (if s0_1 < (s0_0.length : Int) then (if 0 ≤ s0_1 then (if (wrap64 (s0_1 + 1)) ≤ (s0_0.length : Int) then (some (wrap64 (rd s0_0 s0_1), wrap64 (s0_1 + 1), IntKind.u64.wrap ((IntKind.u64.wrap ((IntKind.u64.wrap (s0_2 * 6364136223846793005)) + (IntKind.u64.wrap (wrap64 (rd s0_0 s0_1))))) + 1442695040888963407))) else (some (wrap64 (Go.bits .and .u64 ((IntKind.u64.wrap ((IntKind.u64.wrap ((IntKind.u64.wrap (s0_2 * 6364136223846793005)) + (IntKind.u64.wrap (wrap64 (rd s0_0 s0_1))))) + 1442695040888963407)) / 1099511627776) 255), wrap64 (s0_1 + 1), IntKind.u64.wrap ((IntKind.u64.wrap ((IntKind.u64.wrap (s0_2 * 6364136223846793005)) + (IntKind.u64.wrap (wrap64 (rd s0_0 s0_1))))) + 1442695040888963407)))) else (none)) else (if (wrap64 (s0_1 + 1)) ≤ (s0_0.length : Int) then (some (0, wrap64 (s0_1 + 1), IntKind.u64.wrap ((IntKind.u64.wrap ((IntKind.u64.wrap (s0_2 * 6364136223846793005)))) + 1442695040888963407))) else (some (wrap64 (Go.bits .and .u64 ((IntKind.u64.wrap ((IntKind.u64.wrap ((IntKind.u64.wrap (s0_2 * 6364136223846793005)))) + 1442695040888963407)) / 1099511627776) 255), wrap64 (s0_1 + 1), IntKind.u64.wrap ((IntKind.u64.wrap ((IntKind.u64.wrap (s0_2 * 6364136223846793005)))) + 1442695040888963407))))) = some (r1, r2, r3) := h
 clear h
 by_cases c2 : s0_1 < (s0_0.length : Int)
 rotate_left
 ·rw [if_neg c2] at H
  have c2b0 : decide (s0_1 < (s0_0.length : Int)) = false := decide_eq_false c2
  clear c2
  have HC8 := Aside0.mk H
  clear H
  obtain ⟨ASz9_0, cSz9_0, HGz9, hgz9, HSz9_0⟩ := HI0.out
  have hcz9_0 := cellS81_0 HGz9
  have hcz9_1 := cellS81_1 HGz9
  have hcz9_2 := cellS81_2 HGz9
  have hfz9_1 := ba_ HGz9 1
  have hfz9_2 := ba_ HGz9 2
  clear HGz9 hgz9
  go_enter Tryd.func83, Tryd.ntmps83
  go_upto_if 53 with (fail)
  repeat (go_quiet (fail); go_upto_if 53 with (fail))
  have H := HC8.out
  clear HC8
  by_cases c10 : (wrap64 (s0_1 + 1)) ≤ (s0_0.length : Int)
  rotate_left
  ·rw [if_neg c10] at H
   have c10b0 : decide ((wrap64 (s0_1 + 1)) ≤ (s0_0.length : Int)) = false := decide_eq_false c10
   clear c10
   (first | rw [c10b0] | (simp only [i64_w, i32_w]; rw [c10b0]) | (simp only [c10b1, Bool.not_true, Bool.not_false]) | (simp only [c10b0, Bool.not_true, Bool.not_false]) | skip)
   simp only [Option.some.injEq, Prod.mk.injEq] at H
   obtain ⟨rfl, rfl, rfl⟩ := H
   obtain ⟨ASz11_0, cSz11_0, HGz11, hgz11, HSz11_0⟩ := HI0.out
   have hcz11_0 := cellS81_0 HGz11
   have hcz11_1 := cellS81_1 HGz11
   have hcz11_2 := cellS81_2 HGz11
   have hfz11_1 := ba_ HGz11 1
   have hfz11_2 := ba_ HGz11 2
   clear HGz11 hgz11
   go_wp2
   repeat (go_quiet (fail); try go_wp2)
   go_ret
   exact ⟨by first | rfl | (simp [*, aw_, av_] <;> rfl), by repeat (first | (with_reducible first | exact HI0.out | apply IsS81.alloc | apply IsS81.drewN | apply IsS81.drew | apply IsS81.set_1 | apply IsS81.set_2) | exact HI0.out), by repeat (first | (with_reducible first | exact HB.out | apply bA_ | apply bN_ | apply bD_ | refine ab_ ?_ (IsS81.ge HI0.out)) | exact HB.out), by repeat (first | (with_reducible first | exact HK.out | apply ac_.set_ | apply ad_ | apply af_ | apply ae_) | exact HK.out)⟩
  rw [if_pos c10] at H
  have c10b0 : decide ((wrap64 (s0_1 + 1)) ≤ (s0_0.length : Int)) = true := decide_eq_true c10
  clear c10
  (first | rw [c10b0] | (simp only [i64_w, i32_w]; rw [c10b0]) | (simp only [c10b1, Bool.not_true, Bool.not_false]) | (simp only [c10b0, Bool.not_true, Bool.not_false]) | skip)
  simp only [Option.some.injEq, Prod.mk.injEq] at H
  obtain ⟨rfl, rfl, rfl⟩ := H
  go_wp2
  repeat (go_quiet (fail); try go_wp2)
  go_ret
  exact ⟨by first | rfl | (simp [*, aw_, av_] <;> rfl), by repeat (first | (with_reducible first | exact HI0.out | apply IsS81.alloc | apply IsS81.drewN | apply IsS81.drew | apply IsS81.set_1 | apply IsS81.set_2) | exact HI0.out), by repeat (first | (with_reducible first | exact HB.out | apply bA_ | apply bN_ | apply bD_ | refine ab_ ?_ (IsS81.ge HI0.out)) | exact HB.out), by repeat (first | (with_reducible first | exact HK.out | apply ac_.set_ | apply ad_ | apply af_ | apply ae_) | exact HK.out)⟩
 rw [if_pos c2] at H
 have c2b0 : decide (s0_1 < (s0_0.length : Int)) = true := decide_eq_true c2
 clear c2
 by_cases c3 : 0 ≤ s0_1
 rotate_left
 ·rw [if_neg c3] at H
  exact absurd H (by simp)
 rw [if_pos c3] at H
 have c3b0 : decide (0 ≤ s0_1) = true := decide_eq_true c3
 clear c3
 have HC4 := Aside0.mk H
 clear H
 obtain ⟨ASz5_0, cSz5_0, HGz5, hgz5, HSz5_0⟩ := HI0.out
 have hcz5_0 := cellS81_0 HGz5
 have hcz5_1 := cellS81_1 HGz5
 have hcz5_2 := cellS81_2 HGz5
 have hfz5_1 := ba_ HGz5 1
 have hfz5_2 := ba_ HGz5 2
 clear HGz5 hgz5
 have p101 : 0 ≤ (s0_1 : Int) := of_decide_eq_true (by assumption)
 have q101 : s0_1 < (s0_0.length : Int) := of_decide_eq_true (by assumption)
 obtain ⟨ad101, e101, hx101_0⟩ := Kd.at_int HSz5_0 s0_1 p101 q101
 cases e101
 replace hx101_0 := pw_cell_below HB.out hx101_0
 replace p101 := eq_true p101
 replace q101 := eq_true q101
 go_enter Tryd.func83, Tryd.ntmps83
 go_upto_if 53 with (fail)
 repeat (go_quiet (fail); go_upto_if 53 with (fail))
 have H := HC4.out
 clear HC4
 by_cases c6 : (wrap64 (s0_1 + 1)) ≤ (s0_0.length : Int)
 rotate_left
 ·rw [if_neg c6] at H
  have c6b0 : decide ((wrap64 (s0_1 + 1)) ≤ (s0_0.length : Int)) = false := decide_eq_false c6
  clear c6
  (first | rw [c6b0] | (simp only [i64_w, i32_w]; rw [c6b0]) | (simp only [c6b1, Bool.not_true, Bool.not_false]) | (simp only [c6b0, Bool.not_true, Bool.not_false]) | skip)
  simp only [Option.some.injEq, Prod.mk.injEq] at H
  obtain ⟨rfl, rfl, rfl⟩ := H
  obtain ⟨ASz7_0, cSz7_0, HGz7, hgz7, HSz7_0⟩ := HI0.out
  have hcz7_0 := cellS81_0 HGz7
  have hcz7_1 := cellS81_1 HGz7
  have hcz7_2 := cellS81_2 HGz7
  have hfz7_1 := ba_ HGz7 1
  have hfz7_2 := ba_ HGz7 2
  clear HGz7 hgz7
  go_wp2
  repeat (go_quiet (fail); try go_wp2)
  go_ret
  exact ⟨by first | rfl | (simp [*, aw_, av_] <;> rfl), by repeat (first | (with_reducible first | exact HI0.out | apply IsS81.alloc | apply IsS81.drewN | apply IsS81.drew | apply IsS81.set_1 | apply IsS81.set_2) | exact HI0.out), by repeat (first | (with_reducible first | exact HB.out | apply bA_ | apply bN_ | apply bD_ | refine ab_ ?_ (IsS81.ge HI0.out)) | exact HB.out), by repeat (first | (with_reducible first | exact HK.out | apply ac_.set_ | apply ad_ | apply af_ | apply ae_) | exact HK.out)⟩
 rw [if_pos c6] at H
 have c6b0 : decide ((wrap64 (s0_1 + 1)) ≤ (s0_0.length : Int)) = true := decide_eq_true c6
 clear c6
 (first | rw [c6b0] | (simp only [i64_w, i32_w]; rw [c6b0]) | (simp only [c6b1, Bool.not_true, Bool.not_false]) | (simp only [c6b0, Bool.not_true, Bool.not_false]) | skip)
 simp only [Option.some.injEq, Prod.mk.injEq] at H
 obtain ⟨rfl, rfl, rfl⟩ := H
 go_wp2
 repeat (go_quiet (fail); try go_wp2)
 go_ret
 exact ⟨by first | rfl | (simp [*, aw_, av_] <;> rfl), by repeat (first | (with_reducible first | exact HI0.out | apply IsS81.alloc | apply IsS81.drewN | apply IsS81.drew | apply IsS81.set_1 | apply IsS81.set_2) | exact HI0.out), by repeat (first | (with_reducible first | exact HB.out | apply bA_ | apply bN_ | apply bD_ | refine ab_ ?_ (IsS81.ge HI0.out)) | exact HB.out), by repeat (first | (with_reducible first | exact HK.out | apply ac_.set_ | apply ad_ | apply af_ | apply ae_) | exact HK.out)⟩
def aj_.f (s0_0 : List Int) (s0_1 : Int) (s0_2 : Int) (a1 : Int) : Option (Int × Int × Int) := if a1 ≤ 1 then (some (0, s0_1, s0_2)) else ((bF_.f s0_0 s0_1 s0_2).bind fun bt101 => (if a1 > 200 then ((bF_.f s0_0 bt101.2.1 bt101.2.2).bind fun bt104 => (if a1 = 0 then (none) else (some (Int.tmod (wrap64 ((wrap64 (bt101.1 * 256)) + bt104.1)) a1, bt104.2.1, bt104.2.2)))) else (if a1 = 0 then (none) else (some (Int.tmod bt101.1 a1, bt101.2.1, bt101.2.2)))))
set_option maxHeartbeats 8000000 in
set_option maxRecDepth 100000 in
theorem aj_.calls (g : Nat) (s0_0 : List Int) (s0_1 : Int) (s0_2 : Int) (a1 : Int) (r1 : Int) (r2 : Int) (r3 : Int) (w0 w : World) (hI : IsS81 w0 w g s0_0 s0_1 s0_2) (hB : Below w0.heap.size w0 w) (h : aj_.f s0_0 s0_1 s0_2 a1 = some (r1, r2, r3)) :
  Calls Tryd.prog 65 #[.pointer (some ⟨g, 0, none⟩), .int .i64 a1] w fun e w' => e = .returned (.int .i64 r1) ∧ IsS81 w0 w' g s0_0 r2 r3 ∧ Below w0.heap.size w0 w' ∧ ac_ w w' g none := by
 have HI0 := Aside0.mk hI
 have HK := Aside0.mk (ac_.refl w g none)
 have HL := Aside0.mk hB.size
 clear hI
 have HW0 := Aside0.mk hB.size
 have HB := Aside0.mk hB
 clear hB
 have H : (if a1 ≤ 1 then (some (0, s0_1, s0_2)) else ((bF_.f s0_0 s0_1 s0_2).bind fun bt101 => (if a1 > 200 then ((bF_.f s0_0 bt101.2.1 bt101.2.2).bind fun bt104 => (if a1 = 0 then (none) else (some (Int.tmod (wrap64 ((wrap64 (bt101.1 * 256)) + bt104.1)) a1, bt104.2.1, bt104.2.2)))) else (if a1 = 0 then (none) else (some (Int.tmod bt101.1 a1, bt101.2.1, bt101.2.2)))))) = some (r1, r2, r3) := h
 clear h
 by_cases c3 : a1 ≤ 1
 rotate_left
 ·rw [if_neg c3] at H
  have c3b0 : decide (a1 ≤ 1) = false := decide_eq_false c3
  clear c3
  replace H := Option.bind_eq_some_iff.mp H
  obtain ⟨⟨t101, t102, t103⟩, A40, H⟩ := H
  (try dsimp only at H)
  have A4 := Aside0.mk A40
  clear A40
  have HC5 := Aside0.mk H
  clear H
  go_enter Tryd.func65, Tryd.ntmps65
  go_upto_if 11 with (first | ((with_reducible refine al_ (f := 83) rfl ?_); refine bf_ (some 9) rfl rfl Tryd.func83 (by kernel_rfl) rfl #[.pointer (some ⟨g, 0, none⟩)] rfl (by first | rfl | (simp only [lma_, lmc_, lmn_]; first | done | rfl)) ?_; (with_reducible refine (bF_.calls g s0_0 s0_1 s0_2 t101 t102 t103 w0 _ ?side1 ?side2 A4.out).mono ?_); (case side1 => repeat (first | (with_reducible first | exact HI0.out | apply IsS81.alloc | apply IsS81.drewN | apply IsS81.drew | apply IsS81.set_1 | apply IsS81.set_2) | exact HI0.out)); (case side2 => repeat (first | (with_reducible first | exact HB.out | apply bA_ | apply bN_ | apply bD_ | refine ab_ ?_ (IsS81.ge HI0.out)) | exact HB.out)); rintro e w6 ⟨rfl, hi, hb, hk⟩; refine ⟨_, rfl, ?_⟩; replace HK := Aside0.mk (ac_.trans (by repeat (first | (with_reducible first | exact HK.out | apply ac_.set_ | apply ad_ | apply af_ | apply ae_) | exact HK.out)) hk (.inl rfl)); replace HB := Aside0.mk (hb); replace HI0 := Aside0.mk (hi); (try clear hb)))
  (try simp only [Act.put, lsa_, ls0_, ls1_])
  have H := HC5.out
  clear HC5
  by_cases c7 : a1 > 200
  rotate_left
  ·rw [if_neg c7] at H
   have c7b0 : decide (200 < a1) = false := decide_eq_false c7
   clear c7
   (first | rw [c7b0] | (simp only [i64_w, i32_w]; rw [c7b0]) | (simp only [c7b1, Bool.not_true, Bool.not_false]) | (simp only [c7b0, Bool.not_true, Bool.not_false]) | skip)
   by_cases c11 : a1 = 0
   rotate_left
   ·rw [if_neg c11] at H
    have c11b0 : (a1 == 0) = false := beq_eq_false_iff_ne.mpr c11
    have c11b1 : (a1 != 0) = true := bne_iff_ne.mpr c11
    simp only [Option.some.injEq, Prod.mk.injEq] at H
    obtain ⟨rfl, rfl, rfl⟩ := H
    go_wp2
    go_ret
    exact ⟨by first | rfl | (simp [*, aw_, av_] <;> rfl), by repeat (first | (with_reducible first | exact HI0.out | apply IsS81.alloc | apply IsS81.drewN | apply IsS81.drew | apply IsS81.set_1 | apply IsS81.set_2) | exact HI0.out), by repeat (first | (with_reducible first | exact HB.out | apply bA_ | apply bN_ | apply bD_ | refine ab_ ?_ (IsS81.ge HI0.out)) | exact HB.out), by repeat (first | (with_reducible first | exact HK.out | apply ac_.set_ | apply ad_ | apply af_ | apply ae_) | exact HK.out)⟩
   rw [if_pos c11] at H
   exact absurd H (by simp)
  rw [if_pos c7] at H
  have c7b0 : decide (200 < a1) = true := decide_eq_true c7
  clear c7
  (first | rw [c7b0] | (simp only [i64_w, i32_w]; rw [c7b0]) | (simp only [c7b1, Bool.not_true, Bool.not_false]) | (simp only [c7b0, Bool.not_true, Bool.not_false]) | skip)
  replace H := Option.bind_eq_some_iff.mp H
  obtain ⟨⟨t104, t105, t106⟩, A80, H⟩ := H
  (try dsimp only at H)
  have A8 := Aside0.mk A80
  clear A80
  by_cases c9 : a1 = 0
  rotate_left
  ·rw [if_neg c9] at H
   have c9b0 : (a1 == 0) = false := beq_eq_false_iff_ne.mpr c9
   have c9b1 : (a1 != 0) = true := bne_iff_ne.mpr c9
   simp only [Option.some.injEq, Prod.mk.injEq] at H
   obtain ⟨rfl, rfl, rfl⟩ := H
   go_wp2_with (first | ((with_reducible refine al_ (f := 83) rfl ?_); refine bf_ (some 15) rfl rfl Tryd.func83 (by kernel_rfl) rfl #[.pointer (some ⟨g, 0, none⟩)] rfl (by first | rfl | (simp only [lma_, lmc_, lmn_]; first | done | rfl)) ?_; (with_reducible refine (bF_.calls g s0_0 t102 t103 t104 t105 t106 w0 _ ?side1 ?side2 A8.out).mono ?_); (case side1 => repeat (first | (with_reducible first | exact HI0.out | apply IsS81.alloc | apply IsS81.drewN | apply IsS81.drew | apply IsS81.set_1 | apply IsS81.set_2) | exact HI0.out)); (case side2 => repeat (first | (with_reducible first | exact HB.out | apply bA_ | apply bN_ | apply bD_ | refine ab_ ?_ (IsS81.ge HI0.out)) | exact HB.out)); rintro e w10 ⟨rfl, hi, hb, hk⟩; refine ⟨_, rfl, ?_⟩; replace HK := Aside0.mk (ac_.trans (by repeat (first | (with_reducible first | exact HK.out | apply ac_.set_ | apply ad_ | apply af_ | apply ae_) | exact HK.out)) hk (.inl rfl)); replace HB := Aside0.mk (hb); replace HI0 := Aside0.mk (hi); (try clear hb)))
   go_ret
   exact ⟨by first | rfl | (simp [*, aw_, av_] <;> rfl), by repeat (first | (with_reducible first | exact HI0.out | apply IsS81.alloc | apply IsS81.drewN | apply IsS81.drew | apply IsS81.set_1 | apply IsS81.set_2) | exact HI0.out), by repeat (first | (with_reducible first | exact HB.out | apply bA_ | apply bN_ | apply bD_ | refine ab_ ?_ (IsS81.ge HI0.out)) | exact HB.out), by repeat (first | (with_reducible first | exact HK.out | apply ac_.set_ | apply ad_ | apply af_ | apply ae_) | exact HK.out)⟩
  rw [if_pos c9] at H
  exact absurd H (by simp)
 rw [if_pos c3] at H
 have c3b0 : decide (a1 ≤ 1) = true := decide_eq_true c3
 clear c3
 simp only [Option.some.injEq, Prod.mk.injEq] at H
 obtain ⟨rfl, rfl, rfl⟩ := H
 go_enter Tryd.func65, Tryd.ntmps65
 go_wp2
 go_ret
 exact ⟨by first | rfl | (simp [*, aw_, av_] <;> rfl), by repeat (first | (with_reducible first | exact HI0.out | apply IsS81.alloc | apply IsS81.drewN | apply IsS81.drew | apply IsS81.set_1 | apply IsS81.set_2) | exact HI0.out), by repeat (first | (with_reducible first | exact HB.out | apply bA_ | apply bN_ | apply bD_ | refine ab_ ?_ (IsS81.ge HI0.out)) | exact HB.out), by repeat (first | (with_reducible first | exact HK.out | apply ac_.set_ | apply ad_ | apply af_ | apply ae_) | exact HK.out)⟩
def bx_.f (l0 : List (S43)) (l1 : List (S43)) : Option (Bool) := if 0 < (l0.length : Int) then (if 0 < (l1.length : Int) then (if (Op.bytesLess (((aa_ l0 0).f0).toList) (((aa_ l1 0).f0).toList)) = true then (some true) else (if ((aa_ l0 0).f0).toList = ((aa_ l1 0).f0).toList then (some (Op.bytesLess (((aa_ l0 0).f1).toList) (((aa_ l1 0).f1).toList))) else (some false))) else (none)) else (none)
set_option maxHeartbeats 8000000 in
set_option maxRecDepth 100000 in
theorem bx_.calls (A0 : Option Addr) (l0 : List (S43)) (A1 : Option Addr) (l1 : List (S43)) (r : Bool) (w : World) (hr0 : Kd.C k43 w A0 l0.length l0) (hr1 : Kd.C k43 w A1 l1.length l1) (h : bx_.f l0 l1 = some r) :
  Calls Tryd.prog 31 #[.pointer A0, .pointer A1] w fun e w' => e = .returned (.bool r) ∧ an_ w w' := by
 have HR0 := Aside0.mk hr0
 clear hr0
 have HR1 := Aside0.mk hr1
 clear hr1
 have H : (if 0 < (l0.length : Int) then (if 0 < (l1.length : Int) then (if (Op.bytesLess (((aa_ l0 0).f0).toList) (((aa_ l1 0).f0).toList)) = true then (some true) else (if ((aa_ l0 0).f0).toList = ((aa_ l1 0).f0).toList then (some (Op.bytesLess (((aa_ l0 0).f1).toList) (((aa_ l1 0).f1).toList))) else (some false))) else (none)) else (none)) = some r := h
 clear h
 by_cases c3 : 0 < (l0.length : Int)
 rotate_left
 ·rw [if_neg c3] at H
  exact absurd H (by simp)
 rw [if_pos c3] at H
 have c3b0 : decide (0 < (l0.length : Int)) = true := decide_eq_true c3
 have c3b1 : decide (0 < l0.length) = true := decide_eq_true (by omega)
 clear c3
 by_cases c4 : 0 < (l1.length : Int)
 rotate_left
 ·rw [if_neg c4] at H
  exact absurd H (by simp)
 rw [if_pos c4] at H
 have c4b0 : decide (0 < (l1.length : Int)) = true := decide_eq_true c4
 have c4b1 : decide (0 < l1.length) = true := decide_eq_true (by omega)
 clear c4
 by_cases c5 : (Op.bytesLess (((aa_ l0 0).f0).toList) (((aa_ l1 0).f0).toList)) = true
 rotate_left
 ·rw [if_neg c5] at H
  have c5b0 : (Op.bytesLess (((aa_ l0 0).f0).toList) (((aa_ l1 0).f0).toList)) = false := by simpa using c5
  clear c5
  by_cases c6 : ((aa_ l0 0).f0).toList = ((aa_ l1 0).f0).toList
  rotate_left
  ·rw [if_neg c6] at H
   have c6b0 : (((aa_ l0 0).f0).toList == ((aa_ l1 0).f0).toList) = false := beq_eq_false_iff_ne.mpr c6
   have c6b1 : (((aa_ l0 0).f0).toList != ((aa_ l1 0).f0).toList) = true := bne_iff_ne.mpr c6
   obtain rfl := Option.some.inj H
   have p101 : 0 ≤ (0 : Int) := (by omega)
   have q101 : 0 < (l0.length : Int) := of_decide_eq_true (by assumption)
   obtain ⟨ad101, e101, hx101_0, hx101_1, hx101_2⟩ := br_ HR0.out 0 p101 q101
   cases e101
   have qi101 : (0 < l0.length) = True := eq_true (by omega)
   (try simp only [Int.toNat_zero, Nat.zero_mul, Addr.add_zero'] at hx101_0 hx101_1 hx101_2)
   replace p101 := eq_true p101
   replace q101 := eq_true q101
   have p102 : 0 ≤ (0 : Int) := (by omega)
   have q102 : 0 < (l1.length : Int) := of_decide_eq_true (by assumption)
   obtain ⟨ad102, e102, hx102_0, hx102_1, hx102_2⟩ := br_ HR1.out 0 p102 q102
   cases e102
   have qi102 : (0 < l1.length) = True := eq_true (by omega)
   (try simp only [Int.toNat_zero, Nat.zero_mul, Addr.add_zero'] at hx102_0 hx102_1 hx102_2)
   replace p102 := eq_true p102
   replace q102 := eq_true q102
   have p103 : 0 ≤ (0 : Int) := (by omega)
   have q103 : 0 < (l0.length : Int) := of_decide_eq_true (by assumption)
   obtain ⟨ad103, e103, hx103_0, hx103_1, hx103_2⟩ := br_ HR0.out 0 p103 q103
   obtain rfl : ad101 = ad103 := (by injection e103)
   have qi103 : (0 < l0.length) = True := eq_true (by omega)
   (try simp only [Int.toNat_zero, Nat.zero_mul, Addr.add_zero'] at hx103_0 hx103_1 hx103_2)
   replace p103 := eq_true p103
   replace q103 := eq_true q103
   have p104 : 0 ≤ (0 : Int) := (by omega)
   have q104 : 0 < (l1.length : Int) := of_decide_eq_true (by assumption)
   obtain ⟨ad104, e104, hx104_0, hx104_1, hx104_2⟩ := br_ HR1.out 0 p104 q104
   obtain rfl : ad102 = ad104 := (by injection e104)
   have qi104 : (0 < l1.length) = True := eq_true (by omega)
   (try simp only [Int.toNat_zero, Nat.zero_mul, Addr.add_zero'] at hx104_0 hx104_1 hx104_2)
   replace p104 := eq_true p104
   replace q104 := eq_true q104
   go_enter Tryd.func31, Tryd.ntmps31
   go_wp2
   repeat (go_quiet (fail); try go_wp2)
   go_ret
   exact ⟨by first | rfl | (simp; done) | (simp [*]; done), by repeat (first | exact an_.refl _ | apply an_.step)⟩
  rw [if_pos c6] at H
  have c6b0 : (((aa_ l0 0).f0).toList == ((aa_ l1 0).f0).toList) = true := beq_iff_eq.mpr c6
  have c6b1 : (((aa_ l0 0).f0).toList != ((aa_ l1 0).f0).toList) = false := bne_eq_false_iff_eq.mpr c6
  clear c6
  obtain rfl := Option.some.inj H
  have p101 : 0 ≤ (0 : Int) := (by omega)
  have q101 : 0 < (l0.length : Int) := of_decide_eq_true (by assumption)
  obtain ⟨ad101, e101, hx101_0, hx101_1, hx101_2⟩ := br_ HR0.out 0 p101 q101
  cases e101
  have qi101 : (0 < l0.length) = True := eq_true (by omega)
  (try simp only [Int.toNat_zero, Nat.zero_mul, Addr.add_zero'] at hx101_0 hx101_1 hx101_2)
  replace p101 := eq_true p101
  replace q101 := eq_true q101
  have p102 : 0 ≤ (0 : Int) := (by omega)
  have q102 : 0 < (l1.length : Int) := of_decide_eq_true (by assumption)
  obtain ⟨ad102, e102, hx102_0, hx102_1, hx102_2⟩ := br_ HR1.out 0 p102 q102
  cases e102
  have qi102 : (0 < l1.length) = True := eq_true (by omega)
  (try simp only [Int.toNat_zero, Nat.zero_mul, Addr.add_zero'] at hx102_0 hx102_1 hx102_2)
  replace p102 := eq_true p102
  replace q102 := eq_true q102
  have p103 : 0 ≤ (0 : Int) := (by omega)
  have q103 : 0 < (l0.length : Int) := of_decide_eq_true (by assumption)
  obtain ⟨ad103, e103, hx103_0, hx103_1, hx103_2⟩ := br_ HR0.out 0 p103 q103
  obtain rfl : ad101 = ad103 := (by injection e103)
  have qi103 : (0 < l0.length) = True := eq_true (by omega)
  (try simp only [Int.toNat_zero, Nat.zero_mul, Addr.add_zero'] at hx103_0 hx103_1 hx103_2)
  replace p103 := eq_true p103
  replace q103 := eq_true q103
  have p104 : 0 ≤ (0 : Int) := (by omega)
  have q104 : 0 < (l1.length : Int) := of_decide_eq_true (by assumption)
  obtain ⟨ad104, e104, hx104_0, hx104_1, hx104_2⟩ := br_ HR1.out 0 p104 q104
  obtain rfl : ad102 = ad104 := (by injection e104)
  have qi104 : (0 < l1.length) = True := eq_true (by omega)
  (try simp only [Int.toNat_zero, Nat.zero_mul, Addr.add_zero'] at hx104_0 hx104_1 hx104_2)
  replace p104 := eq_true p104
  replace q104 := eq_true q104
  have p105 : 0 ≤ (0 : Int) := (by omega)
  have q105 : 0 < (l0.length : Int) := of_decide_eq_true (by assumption)
  obtain ⟨ad105, e105, hx105_0, hx105_1, hx105_2⟩ := br_ HR0.out 0 p105 q105
  obtain rfl : ad101 = ad105 := (by injection e105)
  have qi105 : (0 < l0.length) = True := eq_true (by omega)
  (try simp only [Int.toNat_zero, Nat.zero_mul, Addr.add_zero'] at hx105_0 hx105_1 hx105_2)
  replace p105 := eq_true p105
  replace q105 := eq_true q105
  have p106 : 0 ≤ (0 : Int) := (by omega)
  have q106 : 0 < (l1.length : Int) := of_decide_eq_true (by assumption)
  obtain ⟨ad106, e106, hx106_0, hx106_1, hx106_2⟩ := br_ HR1.out 0 p106 q106
  obtain rfl : ad102 = ad106 := (by injection e106)
  have qi106 : (0 < l1.length) = True := eq_true (by omega)
  (try simp only [Int.toNat_zero, Nat.zero_mul, Addr.add_zero'] at hx106_0 hx106_1 hx106_2)
  replace p106 := eq_true p106
  replace q106 := eq_true q106
  go_enter Tryd.func31, Tryd.ntmps31
  go_wp2
  repeat (go_quiet (fail); try go_wp2)
  go_ret
  exact ⟨by first | rfl | (simp; done) | (simp [*]; done), by repeat (first | exact an_.refl _ | apply an_.step)⟩
 rw [if_pos c5] at H
 have c5b0 : (Op.bytesLess (((aa_ l0 0).f0).toList) (((aa_ l1 0).f0).toList)) = true := c5
 clear c5
 obtain rfl := Option.some.inj H
 have p101 : 0 ≤ (0 : Int) := (by omega)
 have q101 : 0 < (l0.length : Int) := of_decide_eq_true (by assumption)
 obtain ⟨ad101, e101, hx101_0, hx101_1, hx101_2⟩ := br_ HR0.out 0 p101 q101
 cases e101
 have qi101 : (0 < l0.length) = True := eq_true (by omega)
 (try simp only [Int.toNat_zero, Nat.zero_mul, Addr.add_zero'] at hx101_0 hx101_1 hx101_2)
 replace p101 := eq_true p101
 replace q101 := eq_true q101
 have p102 : 0 ≤ (0 : Int) := (by omega)
 have q102 : 0 < (l1.length : Int) := of_decide_eq_true (by assumption)
 obtain ⟨ad102, e102, hx102_0, hx102_1, hx102_2⟩ := br_ HR1.out 0 p102 q102
 cases e102
 have qi102 : (0 < l1.length) = True := eq_true (by omega)
 (try simp only [Int.toNat_zero, Nat.zero_mul, Addr.add_zero'] at hx102_0 hx102_1 hx102_2)
 replace p102 := eq_true p102
 replace q102 := eq_true q102
 go_enter Tryd.func31, Tryd.ntmps31
 go_wp2
 repeat (go_quiet (fail); try go_wp2)
 go_ret
 exact ⟨by first | rfl | (simp; done) | (simp [*]; done), by repeat (first | exact an_.refl _ | apply an_.step)⟩
end Go.Proofs.YtjebkmfljcanlaaDoor.Q
