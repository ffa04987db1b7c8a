/- For all drawn lists of blocks: removing a block undoes adding it, and merging keeps all blocks of the second list (FnBlocks). Conditions: none beyond the statement. This text holds the functions' walks and the words for them. -/
import Derived.Test.YtckboiphlhhckaaProg
import Derived.Lib.Strings
import Derived.Lib.Slices
import Derived.Lib.Walk
import Derived.Lib.Bytealg
import Derived.Laws.CopyRow
import Derived.Lib.SliceRun
import Derived.Lib.Overlaps
import Derived.Deep.RegionLaw
import Derived.Laws.Externs
import Derived.Lib.AppendZerosOnto
import Derived.Test.YtckboiphlhhckaaKFnBlocksa
set_option linter.unusedVariables false
set_option linter.unusedSimpArgs false
namespace Go.Proofs.Ytckboiphlhhckaa.Q
open Go.RowKit Go.Proofs.YtckboiphlhhckaaW.PrintWords Go.Proofs.YtckboiphlhhckaaW.PrintLast Go.Proofs.YtckboiphlhhckaaW.PrintMore
attribute [local go_sem] aU_ aV_ bj_ bi_ aH_ aJ_ aS_ aT_
def aC_.l0 : Nat → List (S32) → Int → Option (Bool)
 | 0, _, _ => none
 | k + 1, x0, x3 => if x3 < (x0.length : Int) then (if 0 ≤ x3 then ((aY_.f k [aa_ x0 x3]).bind fun t102 => (if t102 = true then (if x3 > 0 then (if 0 ≤ (wrap64 (x3 - 1)) then (if (wrap64 (x3 - 1)) < (x0.length : Int) then ((bt_.f [aa_ x0 (wrap64 (x3 - 1))] [aa_ x0 x3]).bind fun t105 => (if t105 = true then (aC_.l0 k x0 (wrap64 (x3 + 1))) else (some false))) else (none)) else (none)) else (aC_.l0 k x0 (wrap64 (x3 + 1)))) else (some false))) else (none)) else (some (decide ((x0.length : Int) ≤ 32)))
def aC_.f (k : Nat) (l0 : List (S32)) : Option (Bool) := aC_.l0 k l0 0
set_option maxHeartbeats 8000000 in
set_option maxRecDepth 100000 in
theorem aC_.calls (k : Nat) (A0 : Option Addr) (c0 : Nat) (l0 : List (S32)) (r : Bool) (w : World) (hr0 : Kd.C k32 w A0 l0.length l0) (hc0 : l0.length ≤ c0) (h : aC_.f k l0 = some r) :
  Calls Try.prog 46 #[.slice A0 l0.length c0] w fun e w' => e = .returned (.bool r) ∧ au_ w w' := by
 have HR0 := Aside0.mk hr0
 have HC0 := Aside0.mk hc0
 clear hr0 hc0
 have H : (aC_.l0 k l0 0) = some r := h
 clear h
 have H' := Aside0.mk H
 clear H
 go_enter Try.func46, Try.ntmps46
 go_wp2
 repeat (go_quiet (fail); try go_wp2)
 (try simp only [Act.put, lsa_, ls0_, ls1_])
 go_loopg [3] k (fun kq v3 w' => ∃ (x3_1 : Int), v3 = .int .i64 x3_1 ∧ Aside0 (aC_.l0 kq l0 x3_1 = some r) ∧ Aside0 (kq ≤ k) ∧ au_ w w')
 case atStart => exact ⟨(0), (by first | rfl | (simp; done) | (simp [*]; done)), H', ⟨Nat.le_refl _⟩, by repeat (first | exact au_.refl _ | apply au_.step)⟩
 case round =>
  clear H'
  obtain ⟨x3_1, rfl, HA, HK1, ⟨m1, rfl⟩⟩ := hrel
  cases gk with
  | zero => exact absurd HA.out (by simp [aC_.l0])
  | succ k1 =>
   have H := HA.out
   clear HA
   simp only [aC_.l0] at H
   by_cases c2 : x3_1 < (l0.length : Int)
   rotate_left
   ·rw [if_neg c2] at H
    have c2b0 : decide (x3_1 < (l0.length : Int)) = false := decide_eq_false c2
    clear c2
    obtain rfl := Option.some.inj H
    go_wp2
    repeat (go_quiet (fail); try go_wp2)
    go_ret
    exact ⟨by first | rfl | (simp; done) | (simp [*]; done), by repeat (first | exact au_.refl _ | apply au_.step)⟩
   rw [if_pos c2] at H
   have c2b0 : decide (x3_1 < (l0.length : Int)) = true := decide_eq_true c2
   clear c2
   by_cases c3 : 0 ≤ x3_1
   rotate_left
   ·rw [if_neg c3] at H
    exact absurd H (by simp)
   rw [if_pos c3] at H
   have c3b0 : decide (0 ≤ x3_1) = true := decide_eq_true c3
   clear c3
   replace H := Option.bind_eq_some_iff.mp H
   obtain ⟨t102, A40, H⟩ := H
   (try dsimp only at H)
   have A4 := Aside0.mk A40
   clear A40
   by_cases c5 : t102 = true
   rotate_left
   ·replace c5 := Bool.eq_false_iff.mpr c5
    subst c5
    have H1 : (some false) = some r := by rw [if_neg (show ¬ (false = true) by decide)] at H; exact H
    clear H
    have H := H1
    clear H1
    obtain rfl := Option.some.inj H
    have p101 : 0 ≤ (x3_1 : Int) := of_decide_eq_true (by assumption)
    have q101 : x3_1 < (l0.length : Int) := of_decide_eq_true (by assumption)
    obtain ⟨ad101, e101, hx101_0, hx101_1, hx101_2⟩ := bf_ HR0.out x3_1 p101 q101
    cases e101
    replace p101 := eq_true p101
    replace q101 := eq_true q101
    go_wp2_with (first | (go_at_call 43; (with_reducible refine (aY_.calls k1 _ [aa_ l0 x3_1] false _ ?side1 A4.out).mono ?_); (case side1 => exact (RPW.cJ_ (ad := ad101) (n := l0.length) (xs := l0) z32 (i := x3_1) (by first | exact of_eq_true p101 | exact p101 | omega) (by first | exact of_eq_true q101 | exact q101 | omega) (by first | exact HR0.out | exact cz HR0.out))); rintro e w' ⟨rfl, ⟨nd, rfl⟩⟩; (try first | exact ⟨rfl, _, World.drewN_drewN _ _ _⟩ | exact ⟨rfl, _, Eq.trans (World.drewN_drewN _ _ _) (congrArg (World.drewN _) (Nat.add_assoc _ _ _))⟩)))
    repeat (go_quiet (first | (go_at_call 43; (with_reducible refine (aY_.calls k1 _ [aa_ l0 x3_1] false _ ?side1 A4.out).mono ?_); (case side1 => exact (RPW.cJ_ (ad := ad101) (n := l0.length) (xs := l0) z32 (i := x3_1) (by first | exact of_eq_true p101 | exact p101 | omega) (by first | exact of_eq_true q101 | exact q101 | omega) (by first | exact HR0.out | exact cz HR0.out))); rintro e w' ⟨rfl, ⟨nd, rfl⟩⟩; (try first | exact ⟨rfl, _, World.drewN_drewN _ _ _⟩ | exact ⟨rfl, _, Eq.trans (World.drewN_drewN _ _ _) (congrArg (World.drewN _) (Nat.add_assoc _ _ _))⟩))); try go_wp2_with (first | (go_at_call 43; (with_reducible refine (aY_.calls k1 _ [aa_ l0 x3_1] false _ ?side1 A4.out).mono ?_); (case side1 => exact (RPW.cJ_ (ad := ad101) (n := l0.length) (xs := l0) z32 (i := x3_1) (by first | exact of_eq_true p101 | exact p101 | omega) (by first | exact of_eq_true q101 | exact q101 | omega) (by first | exact HR0.out | exact cz HR0.out))); rintro e w' ⟨rfl, ⟨nd, rfl⟩⟩; (try first | exact ⟨rfl, _, World.drewN_drewN _ _ _⟩ | exact ⟨rfl, _, Eq.trans (World.drewN_drewN _ _ _) (congrArg (World.drewN _) (Nat.add_assoc _ _ _))⟩))))
    go_ret
    exact ⟨by first | rfl | (simp; done) | (simp [*]; done), by repeat (first | exact au_.refl _ | apply au_.step)⟩
   subst c5
   have H1 : (if x3_1 > 0 then (if 0 ≤ (wrap64 (x3_1 - 1)) then (if (wrap64 (x3_1 - 1)) < (l0.length : Int) then ((bt_.f [aa_ l0 (wrap64 (x3_1 - 1))] [aa_ l0 x3_1]).bind fun t105 => (if t105 = true then (aC_.l0 k1 l0 (wrap64 (x3_1 + 1))) else (some false))) else (none)) else (none)) else (aC_.l0 k1 l0 (wrap64 (x3_1 + 1)))) = some r := by rw [if_pos rfl] at H; exact H
   clear H
   have H := H1
   clear H1
   by_cases c6 : x3_1 > 0
   rotate_left
   ·rw [if_neg c6] at H
    have c6b0 : decide (0 < x3_1) = false := decide_eq_false c6
    clear c6
    have H' := Aside0.mk H
    clear H
    have p101 : 0 ≤ (x3_1 : Int) := of_decide_eq_true (by assumption)
    have q101 : x3_1 < (l0.length : Int) := of_decide_eq_true (by assumption)
    obtain ⟨ad101, e101, hx101_0, hx101_1, hx101_2⟩ := bf_ HR0.out x3_1 p101 q101
    cases e101
    replace p101 := eq_true p101
    replace q101 := eq_true q101
    go_wp2_with (first | (go_at_call 43; (with_reducible refine (aY_.calls k1 _ [aa_ l0 x3_1] true _ ?side1 A4.out).mono ?_); (case side1 => exact (RPW.cJ_ (ad := ad101) (n := l0.length) (xs := l0) z32 (i := x3_1) (by first | exact of_eq_true p101 | exact p101 | omega) (by first | exact of_eq_true q101 | exact q101 | omega) (by first | exact HR0.out | exact cz HR0.out))); rintro e w' ⟨rfl, ⟨nd, rfl⟩⟩; (try first | exact ⟨rfl, _, World.drewN_drewN _ _ _⟩ | exact ⟨rfl, _, Eq.trans (World.drewN_drewN _ _ _) (congrArg (World.drewN _) (Nat.add_assoc _ _ _))⟩)))
    repeat (go_quiet (first | (go_at_call 43; (with_reducible refine (aY_.calls k1 _ [aa_ l0 x3_1] true _ ?side1 A4.out).mono ?_); (case side1 => exact (RPW.cJ_ (ad := ad101) (n := l0.length) (xs := l0) z32 (i := x3_1) (by first | exact of_eq_true p101 | exact p101 | omega) (by first | exact of_eq_true q101 | exact q101 | omega) (by first | exact HR0.out | exact cz HR0.out))); rintro e w' ⟨rfl, ⟨nd, rfl⟩⟩; (try first | exact ⟨rfl, _, World.drewN_drewN _ _ _⟩ | exact ⟨rfl, _, Eq.trans (World.drewN_drewN _ _ _) (congrArg (World.drewN _) (Nat.add_assoc _ _ _))⟩))); try go_wp2_with (first | (go_at_call 43; (with_reducible refine (aY_.calls k1 _ [aa_ l0 x3_1] true _ ?side1 A4.out).mono ?_); (case side1 => exact (RPW.cJ_ (ad := ad101) (n := l0.length) (xs := l0) z32 (i := x3_1) (by first | exact of_eq_true p101 | exact p101 | omega) (by first | exact of_eq_true q101 | exact q101 | omega) (by first | exact HR0.out | exact cz HR0.out))); rintro e w' ⟨rfl, ⟨nd, rfl⟩⟩; (try first | exact ⟨rfl, _, World.drewN_drewN _ _ _⟩ | exact ⟨rfl, _, Eq.trans (World.drewN_drewN _ _ _) (congrArg (World.drewN _) (Nat.add_assoc _ _ _))⟩))))
    go_roundg k1
    case measure => have := HK1.out; omega
    case rel => exact ⟨(wrap64 (x3_1 + 1)), (by first | rfl | (simp; done) | (simp [*]; done)), H', ⟨by have := HK1.out; omega⟩, by repeat (first | exact au_.refl _ | apply au_.step)⟩
   rw [if_pos c6] at H
   have c6b0 : decide (0 < x3_1) = true := decide_eq_true c6
   clear c6
   obtain ⟨ji7, hji7⟩ : ∃ j_ : Int, (wrap64 (x3_1 - 1)) = j_ := ⟨_, rfl⟩
   replace H : (if 0 ≤ (ji7) then (if (ji7) < (l0.length : Int) then ((bt_.f [aa_ l0 (ji7)] [aa_ l0 x3_1]).bind fun t105 => (if t105 = true then (aC_.l0 k1 l0 (wrap64 (x3_1 + 1))) else (some false))) else (none)) else (none)) = some r := by first | (rw [hji7] at H; exact H) | (simp only [hji7] at H ⊢; exact H)
   (try rw [hji7] at A4)
   have hji7w : (IntKind.i64.wrap (x3_1 - 1)) = ji7 := (i64_w _).trans hji7
   by_cases c8 : 0 ≤ (ji7)
   rotate_left
   ·rw [if_neg c8] at H
    exact absurd H (by simp)
   rw [if_pos c8] at H
   have c8b0 : decide (0 ≤ (ji7)) = true := decide_eq_true c8
   clear c8
   by_cases c9 : (ji7) < (l0.length : Int)
   rotate_left
   ·rw [if_neg c9] at H
    exact absurd H (by simp)
   rw [if_pos c9] at H
   have c9b0 : decide ((ji7) < (l0.length : Int)) = true := decide_eq_true c9
   clear c9
   replace H := Option.bind_eq_some_iff.mp H
   obtain ⟨t105, A100, H⟩ := H
   (try dsimp only at H)
   have A10 := Aside0.mk A100
   clear A100
   have HC11 := Aside0.mk H
   clear H
   have p101 : 0 ≤ (x3_1 : Int) := of_decide_eq_true (by assumption)
   have q101 : x3_1 < (l0.length : Int) := of_decide_eq_true (by assumption)
   obtain ⟨ad101, e101, hx101_0, hx101_1, hx101_2⟩ := bf_ HR0.out x3_1 p101 q101
   cases e101
   replace p101 := eq_true p101
   replace q101 := eq_true q101
   have p103 : 0 ≤ ((ji7) : Int) := of_decide_eq_true (by assumption)
   have q103 : (ji7) < (l0.length : Int) := of_decide_eq_true (by assumption)
   obtain ⟨ad103, e103, hx103_0, hx103_1, hx103_2⟩ := bf_ HR0.out (ji7) p103 q103
   obtain rfl : ad101 = ad103 := (by injection e103)
   replace p103 := eq_true p103
   replace q103 := eq_true q103
   have p104 : 0 ≤ (x3_1 : Int) := of_decide_eq_true (by assumption)
   have q104 : x3_1 < (l0.length : Int) := of_decide_eq_true (by assumption)
   obtain ⟨ad104, e104, hx104_0, hx104_1, hx104_2⟩ := bf_ HR0.out x3_1 p104 q104
   obtain rfl : ad101 = ad104 := (by injection e104)
   replace p104 := eq_true p104
   replace q104 := eq_true q104
   go_upto_if 29 with (first | (go_at_call 43; (with_reducible refine (aY_.calls k1 _ [aa_ l0 x3_1] true _ ?side1 A4.out).mono ?_); (case side1 => exact (RPW.cJ_ (ad := ad101) (n := l0.length) (xs := l0) z32 (i := x3_1) (by first | exact of_eq_true p101 | exact p101 | omega) (by first | exact of_eq_true q101 | exact q101 | omega) (by first | exact HR0.out | exact cz HR0.out))); rintro e w' ⟨rfl, ⟨nd, rfl⟩⟩; (try first | exact ⟨rfl, _, World.drewN_drewN _ _ _⟩ | exact ⟨rfl, _, Eq.trans (World.drewN_drewN _ _ _) (congrArg (World.drewN _) (Nat.add_assoc _ _ _))⟩)) | (go_at_call 59; (with_reducible refine (bt_.calls _ [aa_ l0 (ji7)] _ [aa_ l0 x3_1] t105 _ ?side1 ?side2 A10.out).mono ?_); (case side1 => exact (RPW.cJ_ (ad := ad101) (n := l0.length) (xs := l0) z32 (i := (ji7)) (by first | exact of_eq_true p103 | exact p103 | omega) (by first | exact of_eq_true q103 | exact q103 | omega) (by first | exact HR0.out | exact cz HR0.out))); (case side2 => exact (RPW.cJ_ (ad := ad101) (n := l0.length) (xs := l0) z32 (i := x3_1) (by first | exact of_eq_true p104 | exact p104 | omega) (by first | exact of_eq_true q104 | exact q104 | omega) (by first | exact HR0.out | exact cz HR0.out))); rintro e w' ⟨rfl, ⟨nd, rfl⟩⟩; (try first | exact ⟨rfl, _, World.drewN_drewN _ _ _⟩ | exact ⟨rfl, _, Eq.trans (World.drewN_drewN _ _ _) (congrArg (World.drewN _) (Nat.add_assoc _ _ _))⟩)))
   repeat (go_quiet (first | (go_at_call 43; (with_reducible refine (aY_.calls k1 _ [aa_ l0 x3_1] true _ ?side1 A4.out).mono ?_); (case side1 => exact (RPW.cJ_ (ad := ad101) (n := l0.length) (xs := l0) z32 (i := x3_1) (by first | exact of_eq_true p101 | exact p101 | omega) (by first | exact of_eq_true q101 | exact q101 | omega) (by first | exact HR0.out | exact cz HR0.out))); rintro e w' ⟨rfl, ⟨nd, rfl⟩⟩; (try first | exact ⟨rfl, _, World.drewN_drewN _ _ _⟩ | exact ⟨rfl, _, Eq.trans (World.drewN_drewN _ _ _) (congrArg (World.drewN _) (Nat.add_assoc _ _ _))⟩)) | (go_at_call 59; (with_reducible refine (bt_.calls _ [aa_ l0 (ji7)] _ [aa_ l0 x3_1] t105 _ ?side1 ?side2 A10.out).mono ?_); (case side1 => exact (RPW.cJ_ (ad := ad101) (n := l0.length) (xs := l0) z32 (i := (ji7)) (by first | exact of_eq_true p103 | exact p103 | omega) (by first | exact of_eq_true q103 | exact q103 | omega) (by first | exact HR0.out | exact cz HR0.out))); (case side2 => exact (RPW.cJ_ (ad := ad101) (n := l0.length) (xs := l0) z32 (i := x3_1) (by first | exact of_eq_true p104 | exact p104 | omega) (by first | exact of_eq_true q104 | exact q104 | omega) (by first | exact HR0.out | exact cz HR0.out))); rintro e w' ⟨rfl, ⟨nd, rfl⟩⟩; (try first | exact ⟨rfl, _, World.drewN_drewN _ _ _⟩ | exact ⟨rfl, _, Eq.trans (World.drewN_drewN _ _ _) (congrArg (World.drewN _) (Nat.add_assoc _ _ _))⟩))); go_upto_if 29 with (first | (go_at_call 43; (with_reducible refine (aY_.calls k1 _ [aa_ l0 x3_1] true _ ?side1 A4.out).mono ?_); (case side1 => exact (RPW.cJ_ (ad := ad101) (n := l0.length) (xs := l0) z32 (i := x3_1) (by first | exact of_eq_true p101 | exact p101 | omega) (by first | exact of_eq_true q101 | exact q101 | omega) (by first | exact HR0.out | exact cz HR0.out))); rintro e w' ⟨rfl, ⟨nd, rfl⟩⟩; (try first | exact ⟨rfl, _, World.drewN_drewN _ _ _⟩ | exact ⟨rfl, _, Eq.trans (World.drewN_drewN _ _ _) (congrArg (World.drewN _) (Nat.add_assoc _ _ _))⟩)) | (go_at_call 59; (with_reducible refine (bt_.calls _ [aa_ l0 (ji7)] _ [aa_ l0 x3_1] t105 _ ?side1 ?side2 A10.out).mono ?_); (case side1 => exact (RPW.cJ_ (ad := ad101) (n := l0.length) (xs := l0) z32 (i := (ji7)) (by first | exact of_eq_true p103 | exact p103 | omega) (by first | exact of_eq_true q103 | exact q103 | omega) (by first | exact HR0.out | exact cz HR0.out))); (case side2 => exact (RPW.cJ_ (ad := ad101) (n := l0.length) (xs := l0) z32 (i := x3_1) (by first | exact of_eq_true p104 | exact p104 | omega) (by first | exact of_eq_true q104 | exact q104 | omega) (by first | exact HR0.out | exact cz HR0.out))); rintro e w' ⟨rfl, ⟨nd, rfl⟩⟩; (try first | exact ⟨rfl, _, World.drewN_drewN _ _ _⟩ | exact ⟨rfl, _, Eq.trans (World.drewN_drewN _ _ _) (congrArg (World.drewN _) (Nat.add_assoc _ _ _))⟩))))
   (try simp only [Act.put, lsa_, ls0_, ls1_])
   have H := HC11.out
   clear HC11
   by_cases c12 : t105 = true
   rotate_left
   ·replace c12 := Bool.eq_false_iff.mpr c12
    subst c12
    have H1 : (some false) = some r := by rw [if_neg (show ¬ (false = true) by decide)] at H; exact H
    clear H
    have H := H1
    clear H1
    obtain rfl := Option.some.inj H
    go_wp2
    repeat (go_quiet (fail); try go_wp2)
    go_ret
    exact ⟨by first | rfl | (simp; done) | (simp only [← hji7] <;> (first | rfl | simp)) | (simp [*]; done), by repeat (first | exact au_.refl _ | apply au_.step)⟩
   subst c12
   have H1 : (aC_.l0 k1 l0 (wrap64 (x3_1 + 1))) = some r := by rw [if_pos rfl] at H; exact H
   clear H
   have H := H1
   clear H1
   have H' := Aside0.mk H
   clear H
   go_wp2
   repeat (go_quiet (fail); try go_wp2)
   go_roundg k1
   case measure => have := HK1.out; omega
   case rel => exact ⟨(wrap64 (x3_1 + 1)), (by first | rfl | (simp; done) | (simp [*]; done)), H', ⟨by have := HK1.out; omega⟩, by repeat (first | exact au_.refl _ | apply au_.step)⟩
def bP_.f (k : Nat) (l0 : List (S32)) : Option (Bool) := (aC_.f k l0).bind fun t101 => (some t101)
set_option maxHeartbeats 8000000 in
set_option maxRecDepth 100000 in
theorem bP_.calls (k : Nat) (A0 : Option Addr) (c0 : Nat) (l0 : List (S32)) (r : Bool) (w : World) (hr0 : Kd.C k32 w A0 l0.length l0) (hc0 : l0.length ≤ c0) (h : bP_.f k l0 = some r) :
  Calls Try.prog 21 #[.slice A0 l0.length c0] w fun e w' => e = .returned (.bool r) ∧ au_ w w' := by
 have HR0 := Aside0.mk hr0
 have HC0 := Aside0.mk hc0
 clear hr0 hc0
 have H : ((aC_.f k l0).bind fun t101 => (some t101)) = some r := h
 clear h
 replace H := Option.bind_eq_some_iff.mp H
 obtain ⟨t101, A20, H⟩ := H
 (try dsimp only at H)
 have A2 := Aside0.mk A20
 clear A20
 obtain rfl := Option.some.inj H
 go_enter Try.func21, Try.ntmps21
 go_wp2_with (first | ((with_reducible refine al_ (f := 46) rfl ?_); refine ba_ (some 4) rfl rfl Try.func46 (by kernel_rfl) rfl #[.slice A0 l0.length c0] rfl (by first | rfl | (simp only [lma_, lmc_, lmn_]; first | done | rfl)) ?_; (with_reducible refine (aC_.calls k _ _ l0 t101 _ ?side1 ?side2 A2.out).mono ?_); (case side1 => exact cz HR0.out); (case side2 => exact HC0.out); rintro e w' ⟨rfl, ⟨nd, rfl⟩⟩; refine ⟨_, rfl, ?_⟩))
 go_ret
 exact ⟨by first | rfl | (simp; done) | (simp [*]; done), by repeat (first | exact au_.refl _ | apply au_.step)⟩
mutual
def ax_.j0 : Nat → ByteArray → Bool → Option (Bool)
 | 0, _, _ => none
 | k + 1, x0, x21 => if x21 = true then (some false) else (ax_.l0 k x0 0)
def ax_.l0 : Nat → ByteArray → Int → Option (Bool)
 | 0, _, _ => none
 | k + 1, x0, x3 => if x3 < (x0.size : Int) then (if 0 ≤ x3 then (if (bt x0 x3) < 97 then (if (bt x0 x3) < 48 then (some false) else (if (bt x0 x3) > 57 then (some false) else (ax_.l0 k x0 (wrap64 (x3 + 1))))) else (if (bt x0 x3) > 122 then (if (bt x0 x3) < 48 then (some false) else (if (bt x0 x3) > 57 then (some false) else (ax_.l0 k x0 (wrap64 (x3 + 1))))) else (ax_.l0 k x0 (wrap64 (x3 + 1))))) else (none)) else (some true)
end
def ax_.f (k : Nat) (a0 : ByteArray) : Option (Bool) := if (a0.size : Int) < 1 then (ax_.j0 k a0 true) else (if (a0.size : Int) > 10 then (ax_.j0 k a0 true) else (if 0 < (a0.size : Int) then (if (bt a0 0) < 97 then (ax_.j0 k a0 true) else (ax_.j0 k a0 (decide ((bt a0 0) > 122)))) else (none)))
set_option maxHeartbeats 8000000 in
set_option maxRecDepth 100000 in
theorem ax_.calls (k : Nat) (a0 : ByteArray) (r : Bool) (w : World) (h : ax_.f k a0 = some r) :
  Calls Try.prog 44 #[.string a0] w fun e w' => e = .returned (.bool r) ∧ au_ w w' := by
 have H : (if (a0.size : Int) < 1 then (ax_.j0 k a0 true) else (if (a0.size : Int) > 10 then (ax_.j0 k a0 true) else (if 0 < (a0.size : Int) then (if (bt a0 0) < 97 then (ax_.j0 k a0 true) else (ax_.j0 k a0 (decide ((bt a0 0) > 122)))) else (none)))) = some r := h
 clear h
 have HC2 := Aside0.mk H
 clear H
 go_enter Try.func44, Try.ntmps44
 go_upto_region 1 with (fail)
 go_cut [21] (fun v21 wc => ∃ (kq : Nat) (x21_1 : Bool), v21 = .bool x21_1 ∧ Aside0 (ax_.j0 kq a0 x21_1 = some r) ∧ Aside0 (kq ≤ k) ∧ au_ w wc)
 case first =>
  have H := HC2.out
  clear HC2
  by_cases c3 : (a0.size : Int) < 1
  rotate_left
  ·rw [if_neg c3] at H
   have c3b0 : decide ((a0.size : Int) < 1) = false := decide_eq_false c3
   have c3b1 : decide (a0.size < 1) = false := decide_eq_false (by omega)
   clear c3
   (first | rw [c3b0] | (simp only [i64_w, i32_w]; rw [c3b0]) | (simp only [c3b1, Bool.not_true, Bool.not_false]) | (simp only [c3b0, Bool.not_true, Bool.not_false]) | skip)
   by_cases c4 : (a0.size : Int) > 10
   rotate_left
   ·rw [if_neg c4] at H
    have c4b0 : decide (10 < (a0.size : Int)) = false := decide_eq_false c4
    have c4b1 : decide (10 < a0.size) = false := decide_eq_false (by omega)
    clear c4
    by_cases c5 : 0 < (a0.size : Int)
    rotate_left
    ·rw [if_neg c5] at H
     exact absurd H (by simp)
    rw [if_pos c5] at H
    have c5b0 : decide (0 < (a0.size : Int)) = true := decide_eq_true c5
    have c5b1 : decide (0 < a0.size) = true := decide_eq_true (by omega)
    clear c5
    by_cases c7 : (bt a0 0) < 97
    rotate_left
    ·rw [if_neg c7] at H
     have c7b0 : decide ((bt a0 0) < 97) = false := decide_eq_false c7
     clear c7
     have H' := Aside0.mk H
     clear H
     have p6 : 0 ≤ (0 : Int) := (by omega)
     have q6 : 0 < a0.size := (by have : (0 : Int) < (a0.size : Int) := of_decide_eq_true (by assumption); omega)
     have hx6 : ∀ h : 0 < a0.size, ((a0[0]'h).toNat : Int) = bt a0 0 := bt_at a0 0
     clear p6
     have qi6 : (0 < (a0.size : Int)) = True := eq_true (of_decide_eq_true (by assumption))
     replace q6 := eq_true q6
     have p8 : 0 ≤ (0 : Int) := (by omega)
     have q8 : 0 < a0.size := (by have : (0 : Int) < (a0.size : Int) := of_decide_eq_true (by assumption); omega)
     have hx8 : ∀ h : 0 < a0.size, ((a0[0]'h).toNat : Int) = bt a0 0 := bt_at a0 0
     clear p8
     have qi8 : (0 < (a0.size : Int)) = True := eq_true (of_decide_eq_true (by assumption))
     replace q8 := eq_true q8
     go_wp2
     go_meet
     case rel => exact ⟨_, (decide ((bt a0 0) > 122)), (by first | rfl | (simp; done) | (simp [*]; done)), H', ⟨by first | omega | exact Nat.le_refl _⟩, by repeat (first | exact au_.refl _ | apply au_.step)⟩
    rw [if_pos c7] at H
    have c7b0 : decide ((bt a0 0) < 97) = true := decide_eq_true c7
    clear c7
    have H' := Aside0.mk H
    clear H
    have p6 : 0 ≤ (0 : Int) := (by omega)
    have q6 : 0 < a0.size := (by have : (0 : Int) < (a0.size : Int) := of_decide_eq_true (by assumption); omega)
    have hx6 : ∀ h : 0 < a0.size, ((a0[0]'h).toNat : Int) = bt a0 0 := bt_at a0 0
    clear p6
    have qi6 : (0 < (a0.size : Int)) = True := eq_true (of_decide_eq_true (by assumption))
    replace q6 := eq_true q6
    go_wp2
    go_meet
    case rel => exact ⟨_, (true), (by first | rfl | (simp; done) | (simp [*]; done)), H', ⟨by first | omega | exact Nat.le_refl _⟩, by repeat (first | exact au_.refl _ | apply au_.step)⟩
   rw [if_pos c4] at H
   have c4b0 : decide (10 < (a0.size : Int)) = true := decide_eq_true c4
   have c4b1 : decide (10 < a0.size) = true := decide_eq_true (by omega)
   clear c4
   have H' := Aside0.mk H
   clear H
   go_wp2
   go_meet
   case rel => exact ⟨_, (true), (by first | rfl | (simp; done) | (simp [*]; done)), H', ⟨by first | omega | exact Nat.le_refl _⟩, by repeat (first | exact au_.refl _ | apply au_.step)⟩
  rw [if_pos c3] at H
  have c3b0 : decide ((a0.size : Int) < 1) = true := decide_eq_true c3
  have c3b1 : decide (a0.size < 1) = true := decide_eq_true (by omega)
  clear c3
  (first | rw [c3b0] | (simp only [i64_w, i32_w]; rw [c3b0]) | (simp only [c3b1, Bool.not_true, Bool.not_false]) | (simp only [c3b0, Bool.not_true, Bool.not_false]) | skip)
  have H' := Aside0.mk H
  clear H
  go_wp2
  go_meet
  case rel => exact ⟨_, (true), (by first | rfl | (simp; done) | (simp [*]; done)), H', ⟨by first | omega | exact Nat.le_refl _⟩, by repeat (first | exact au_.refl _ | apply au_.step)⟩
 case rest =>
  clear HC2
  obtain ⟨kq, x21_1, rfl, HA, HJ1, ⟨mc1, rfl⟩⟩ := hcut
  cases kq with
  | zero => exact absurd HA.out (by simp [ax_.j0])
  | succ kj1 =>
   have H := HA.out
   clear HA
   simp only [ax_.j0] at H
   by_cases c9 : x21_1 = true
   rotate_left
   ·replace c9 := Bool.eq_false_iff.mpr c9
    subst c9
    have H1 : (ax_.l0 kj1 a0 0) = some r := by rw [if_neg (show ¬ (false = true) by decide)] at H; exact H
    clear H
    have H := H1
    clear H1
    have H' := Aside0.mk H
    clear H
    go_wp2
    (try simp only [Act.put, lsa_, ls0_, ls1_])
    go_loopg [3] kj1 (fun kq v3 w' => ∃ (x3_2 : Int), v3 = .int .i64 x3_2 ∧ Aside0 (ax_.l0 kq a0 x3_2 = some r) ∧ Aside0 (kq ≤ kj1) ∧ au_ w w')
    case atStart => exact ⟨(0), (by first | rfl | (simp; done) | (simp [*]; done)), H', ⟨Nat.le_refl _⟩, by repeat (first | exact au_.refl _ | apply au_.step)⟩
    case round =>
     clear H'
     obtain ⟨x3_2, rfl, HA, HK2, ⟨m2, rfl⟩⟩ := hrel
     cases gk with
     | zero => exact absurd HA.out (by simp [ax_.l0])
     | succ k2 =>
      have H := HA.out
      clear HA
      simp only [ax_.l0] at H
      by_cases c10 : x3_2 < (a0.size : Int)
      rotate_left
      ·rw [if_neg c10] at H
       have c10b0 : decide (x3_2 < (a0.size : Int)) = false := decide_eq_false c10
       clear c10
       obtain rfl := Option.some.inj H
       go_wp2
       go_ret
       exact ⟨by first | rfl | (simp; done) | (simp [*]; done), by repeat (first | exact au_.refl _ | apply au_.step)⟩
      rw [if_pos c10] at H
      have c10b0 : decide (x3_2 < (a0.size : Int)) = true := decide_eq_true c10
      clear c10
      by_cases c11 : 0 ≤ x3_2
      rotate_left
      ·rw [if_neg c11] at H
       exact absurd H (by simp)
      rw [if_pos c11] at H
      have c11b0 : decide (0 ≤ x3_2) = true := decide_eq_true c11
      clear c11
      by_cases c13 : (bt a0 x3_2) < 97
      rotate_left
      ·rw [if_neg c13] at H
       have c13b0 : decide ((bt a0 x3_2) < 97) = false := decide_eq_false c13
       clear c13
       by_cases c19 : (bt a0 x3_2) > 122
       rotate_left
       ·rw [if_neg c19] at H
        have c19b0 : decide (122 < (bt a0 x3_2)) = false := decide_eq_false c19
        clear c19
        have H' := Aside0.mk H
        clear H
        have p12 : 0 ≤ (x3_2 : Int) := of_decide_eq_true (by assumption)
        have q12 : x3_2 < (a0.size : Int) := of_decide_eq_true (by assumption)
        have hx12 := bt_at a0 x3_2
        replace p12 := eq_true p12
        replace q12 := eq_true q12
        have p18 : 0 ≤ (x3_2 : Int) := of_decide_eq_true (by assumption)
        have q18 : x3_2 < (a0.size : Int) := of_decide_eq_true (by assumption)
        have hx18 := bt_at a0 x3_2
        replace p18 := eq_true p18
        replace q18 := eq_true q18
        go_wp2
        go_roundg k2
        case measure => have := HJ1.out; have := HK2.out; omega
        case rel => exact ⟨(wrap64 (x3_2 + 1)), (by first | rfl | (simp; done) | (simp [*]; done)), H', ⟨by have := HJ1.out; have := HK2.out; omega⟩, by repeat (first | exact au_.refl _ | apply au_.step)⟩
       rw [if_pos c19] at H
       have c19b0 : decide (122 < (bt a0 x3_2)) = true := decide_eq_true c19
       clear c19
       by_cases c21 : (bt a0 x3_2) < 48
       rotate_left
       ·rw [if_neg c21] at H
        have c21b0 : decide ((bt a0 x3_2) < 48) = false := decide_eq_false c21
        clear c21
        by_cases c23 : (bt a0 x3_2) > 57
        rotate_left
        ·rw [if_neg c23] at H
         have c23b0 : decide (57 < (bt a0 x3_2)) = false := decide_eq_false c23
         clear c23
         have H' := Aside0.mk H
         clear H
         have p12 : 0 ≤ (x3_2 : Int) := of_decide_eq_true (by assumption)
         have q12 : x3_2 < (a0.size : Int) := of_decide_eq_true (by assumption)
         have hx12 := bt_at a0 x3_2
         replace p12 := eq_true p12
         replace q12 := eq_true q12
         have p18 : 0 ≤ (x3_2 : Int) := of_decide_eq_true (by assumption)
         have q18 : x3_2 < (a0.size : Int) := of_decide_eq_true (by assumption)
         have hx18 := bt_at a0 x3_2
         replace p18 := eq_true p18
         replace q18 := eq_true q18
         have p20 : 0 ≤ (x3_2 : Int) := of_decide_eq_true (by assumption)
         have q20 : x3_2 < (a0.size : Int) := of_decide_eq_true (by assumption)
         have hx20 := bt_at a0 x3_2
         replace p20 := eq_true p20
         replace q20 := eq_true q20
         have p22 : 0 ≤ (x3_2 : Int) := of_decide_eq_true (by assumption)
         have q22 : x3_2 < (a0.size : Int) := of_decide_eq_true (by assumption)
         have hx22 := bt_at a0 x3_2
         replace p22 := eq_true p22
         replace q22 := eq_true q22
         go_wp2
         go_roundg k2
         case measure => have := HJ1.out; have := HK2.out; omega
         case rel => exact ⟨(wrap64 (x3_2 + 1)), (by first | rfl | (simp; done) | (simp [*]; done)), H', ⟨by have := HJ1.out; have := HK2.out; omega⟩, by repeat (first | exact au_.refl _ | apply au_.step)⟩
        rw [if_pos c23] at H
        have c23b0 : decide (57 < (bt a0 x3_2)) = true := decide_eq_true c23
        clear c23
        obtain rfl := Option.some.inj H
        have p12 : 0 ≤ (x3_2 : Int) := of_decide_eq_true (by assumption)
        have q12 : x3_2 < (a0.size : Int) := of_decide_eq_true (by assumption)
        have hx12 := bt_at a0 x3_2
        replace p12 := eq_true p12
        replace q12 := eq_true q12
        have p18 : 0 ≤ (x3_2 : Int) := of_decide_eq_true (by assumption)
        have q18 : x3_2 < (a0.size : Int) := of_decide_eq_true (by assumption)
        have hx18 := bt_at a0 x3_2
        replace p18 := eq_true p18
        replace q18 := eq_true q18
        have p20 : 0 ≤ (x3_2 : Int) := of_decide_eq_true (by assumption)
        have q20 : x3_2 < (a0.size : Int) := of_decide_eq_true (by assumption)
        have hx20 := bt_at a0 x3_2
        replace p20 := eq_true p20
        replace q20 := eq_true q20
        have p22 : 0 ≤ (x3_2 : Int) := of_decide_eq_true (by assumption)
        have q22 : x3_2 < (a0.size : Int) := of_decide_eq_true (by assumption)
        have hx22 := bt_at a0 x3_2
        replace p22 := eq_true p22
        replace q22 := eq_true q22
        go_wp2
        go_ret
        exact ⟨by first | rfl | (simp; done) | (simp [*]; done), by repeat (first | exact au_.refl _ | apply au_.step)⟩
       rw [if_pos c21] at H
       have c21b0 : decide ((bt a0 x3_2) < 48) = true := decide_eq_true c21
       clear c21
       obtain rfl := Option.some.inj H
       have p12 : 0 ≤ (x3_2 : Int) := of_decide_eq_true (by assumption)
       have q12 : x3_2 < (a0.size : Int) := of_decide_eq_true (by assumption)
       have hx12 := bt_at a0 x3_2
       replace p12 := eq_true p12
       replace q12 := eq_true q12
       have p18 : 0 ≤ (x3_2 : Int) := of_decide_eq_true (by assumption)
       have q18 : x3_2 < (a0.size : Int) := of_decide_eq_true (by assumption)
       have hx18 := bt_at a0 x3_2
       replace p18 := eq_true p18
       replace q18 := eq_true q18
       have p20 : 0 ≤ (x3_2 : Int) := of_decide_eq_true (by assumption)
       have q20 : x3_2 < (a0.size : Int) := of_decide_eq_true (by assumption)
       have hx20 := bt_at a0 x3_2
       replace p20 := eq_true p20
       replace q20 := eq_true q20
       go_wp2
       go_ret
       exact ⟨by first | rfl | (simp; done) | (simp [*]; done), by repeat (first | exact au_.refl _ | apply au_.step)⟩
      rw [if_pos c13] at H
      have c13b0 : decide ((bt a0 x3_2) < 97) = true := decide_eq_true c13
      clear c13
      by_cases c15 : (bt a0 x3_2) < 48
      rotate_left
      ·rw [if_neg c15] at H
       have c15b0 : decide ((bt a0 x3_2) < 48) = false := decide_eq_false c15
       clear c15
       by_cases c17 : (bt a0 x3_2) > 57
       rotate_left
       ·rw [if_neg c17] at H
        have c17b0 : decide (57 < (bt a0 x3_2)) = false := decide_eq_false c17
        clear c17
        have H' := Aside0.mk H
        clear H
        have p12 : 0 ≤ (x3_2 : Int) := of_decide_eq_true (by assumption)
        have q12 : x3_2 < (a0.size : Int) := of_decide_eq_true (by assumption)
        have hx12 := bt_at a0 x3_2
        replace p12 := eq_true p12
        replace q12 := eq_true q12
        have p14 : 0 ≤ (x3_2 : Int) := of_decide_eq_true (by assumption)
        have q14 : x3_2 < (a0.size : Int) := of_decide_eq_true (by assumption)
        have hx14 := bt_at a0 x3_2
        replace p14 := eq_true p14
        replace q14 := eq_true q14
        have p16 : 0 ≤ (x3_2 : Int) := of_decide_eq_true (by assumption)
        have q16 : x3_2 < (a0.size : Int) := of_decide_eq_true (by assumption)
        have hx16 := bt_at a0 x3_2
        replace p16 := eq_true p16
        replace q16 := eq_true q16
        go_wp2
        go_roundg k2
        case measure => have := HJ1.out; have := HK2.out; omega
        case rel => exact ⟨(wrap64 (x3_2 + 1)), (by first | rfl | (simp; done) | (simp [*]; done)), H', ⟨by have := HJ1.out; have := HK2.out; omega⟩, by repeat (first | exact au_.refl _ | apply au_.step)⟩
       rw [if_pos c17] at H
       have c17b0 : decide (57 < (bt a0 x3_2)) = true := decide_eq_true c17
       clear c17
       obtain rfl := Option.some.inj H
       have p12 : 0 ≤ (x3_2 : Int) := of_decide_eq_true (by assumption)
       have q12 : x3_2 < (a0.size : Int) := of_decide_eq_true (by assumption)
       have hx12 := bt_at a0 x3_2
       replace p12 := eq_true p12
       replace q12 := eq_true q12
       have p14 : 0 ≤ (x3_2 : Int) := of_decide_eq_true (by assumption)
       have q14 : x3_2 < (a0.size : Int) := of_decide_eq_true (by assumption)
       have hx14 := bt_at a0 x3_2
       replace p14 := eq_true p14
       replace q14 := eq_true q14
       have p16 : 0 ≤ (x3_2 : Int) := of_decide_eq_true (by assumption)
       have q16 : x3_2 < (a0.size : Int) := of_decide_eq_true (by assumption)
       have hx16 := bt_at a0 x3_2
       replace p16 := eq_true p16
       replace q16 := eq_true q16
       go_wp2
       go_ret
       exact ⟨by first | rfl | (simp; done) | (simp [*]; done), by repeat (first | exact au_.refl _ | apply au_.step)⟩
      rw [if_pos c15] at H
      have c15b0 : decide ((bt a0 x3_2) < 48) = true := decide_eq_true c15
      clear c15
      obtain rfl := Option.some.inj H
      have p12 : 0 ≤ (x3_2 : Int) := of_decide_eq_true (by assumption)
      have q12 : x3_2 < (a0.size : Int) := of_decide_eq_true (by assumption)
      have hx12 := bt_at a0 x3_2
      replace p12 := eq_true p12
      replace q12 := eq_true q12
      have p14 : 0 ≤ (x3_2 : Int) := of_decide_eq_true (by assumption)
      have q14 : x3_2 < (a0.size : Int) := of_decide_eq_true (by assumption)
      have hx14 := bt_at a0 x3_2
      replace p14 := eq_true p14
      replace q14 := eq_true q14
      go_wp2
      go_ret
      exact ⟨by first | rfl | (simp; done) | (simp [*]; done), by repeat (first | exact au_.refl _ | apply au_.step)⟩
   subst c9
   have H1 : (some false) = some r := by rw [if_pos rfl] at H; exact H
   clear H
   have H := H1
   clear H1
   obtain rfl := Option.some.inj H
   go_wp2
   go_ret
   exact ⟨by first | rfl | (simp; done) | (simp [*]; done), by repeat (first | exact au_.refl _ | apply au_.step)⟩
end Go.Proofs.Ytckboiphlhhckaa.Q
namespace Go.Proofs
set_option maxHeartbeats 1000000 in
set_option maxRecDepth 100000 in
theorem Try.stringslite_IndexByte (s : ByteArray) (c : Int) (w : World) :
  Calls Try.prog 76 #[.string s, .int .u8 c] w fun e w' => e = .returned (.int .i64 (Lib.indexByte s.data.toList c.toNat.toUInt8)) ∧ w' = w := by
 go_enter Try.func76, Try.ntmps76
 go_wp2
 rw [run_callFunc_extern Try.func87 (by kernel_rfl) (by kernel_rfl) (by kernel_rfl) (e := Extern.BytealgIndexByte.indexByte) (by kernel_rfl), Lib.run_indexByteString]
 simp only [Result.andThen]
 rw [Oper.upon_value]
 go_wp2
 go_ret
 exact ⟨rfl, rfl⟩
set_option maxHeartbeats 2000000 in
set_option maxRecDepth 100000 in
theorem Try.stringslite_Index_one (s : ByteArray) (c : UInt8) (w : World) :
  Calls Try.prog 67 #[.string s, .string ⟨#[c]⟩] w fun e w' => e = .returned (.int .i64 (Lib.indexByte s.data.toList c)) ∧ w' = w := by
 go_enter Try.func67, Try.ntmps67
 go_wp2_with (go_at_call 76; refine (Try.stringslite_IndexByte _ _ _).mono ?_; rintro e w' ⟨rfl, rfl⟩)
 ·have h : ([c] == s.toList) = true := by assumption
  go_ret
  refine ⟨?_, rfl⟩
  have e : s.data.toList = [c] := by rw [← Lib.toList_data]; exact (beq_iff_eq.1 h).symm
  rw [e]
  simp [Lib.indexByte]
 ·go_ret
  exact ⟨rfl, rfl⟩
set_option maxHeartbeats 1000000 in
theorem Try.strings_Index_one (s : ByteArray) (c : UInt8) (w : World) :
  Calls Try.prog 58 #[.string s, .string ⟨#[c]⟩] w fun e w' => e = .returned (.int .i64 (Lib.indexByte s.data.toList c)) ∧ w' = w := by
 go_enter Try.func58, Try.ntmps58
 go_wp2_with (go_at_call 67; refine (Try.stringslite_Index_one _ _ _).mono ?_; rintro e w' ⟨rfl, rfl⟩)
 go_ret
 exact ⟨rfl, rfl⟩
set_option maxHeartbeats 1000000 in
theorem Try.strings_Contains_one (s : ByteArray) (c : UInt8) (w : World) :
  Calls Try.prog 45 #[.string s, .string ⟨#[c]⟩] w fun e w' => e = .returned (.bool (decide (0 ≤ Lib.indexByte s.data.toList c))) ∧ w' = w := by
 go_enter Try.func45, Try.ntmps45
 go_wp2_with (go_at_call 58; refine (Try.strings_Index_one _ _ _).mono ?_; rintro e w' ⟨rfl, rfl⟩)
 go_ret
 exact ⟨rfl, rfl⟩
end Go.Proofs
namespace Go.Proofs.Ytckboiphlhhckaa.Q
open Go.RowKit Go.Proofs.YtckboiphlhhckaaW.PrintWords Go.Proofs.YtckboiphlhhckaaW.PrintLast Go.Proofs.YtckboiphlhhckaaW.PrintMore
attribute [local go_sem] aU_ aV_ bj_ bi_ aH_ aJ_ aS_ aT_
def strings_Contains.f (a0 : ByteArray) (a1 : ByteArray) : Option (Bool) := match a1.data.toList with
 | [c] => some (decide (0 ≤ Go.Lib.indexByte a0.data.toList c))
 | _ => none
theorem strings_Contains.calls (a0 : ByteArray) (a1 : ByteArray) (r : Bool) (w : World) (h : strings_Contains.f a0 a1 = some r) :
  Calls Try.prog 45 #[.string a0, .string a1] w fun e w' => e = .returned (.bool r) ∧ au_ w w' := by
 obtain ⟨d⟩ := a1
 obtain ⟨l⟩ := d
 match l, h with
 | [c], h =>
  obtain rfl := Option.some.inj h
  refine (Go.Proofs.Try.strings_Contains_one a0 c w).mono ?_
  rintro e w' ⟨rfl, rfl⟩
  exact ⟨rfl, au_.refl _⟩
def bx_.f (k : Nat) (a0_0 : ByteArray) (a0_1 : ByteArray) (a0_2 : ByteArray) : Option (Bool) := (ax_.f k a0_0).bind fun t102 => (if t102 = true then ((ax_.f k a0_1).bind fun t103 => (if t103 = true then (if (a0_2.size : Int) ≤ 400 then ((strings_Contains.f a0_2 (⟨#[10]⟩ : ByteArray)).bind fun t104 => (some (!t104))) else (some false)) else (some false))) else (some false))
set_option maxHeartbeats 8000000 in
set_option maxRecDepth 100000 in
theorem bx_.calls (k : Nat) (a0_0 : ByteArray) (a0_1 : ByteArray) (a0_2 : ByteArray) (r : Bool) (w : World) (h : bx_.f k a0_0 a0_1 a0_2 = some r) :
  Calls Try.prog 20 #[.agg #[.string a0_0, .string a0_1, .string a0_2]] w fun e w' => e = .returned (.bool r) ∧ Below w.heap.size w w' := by
 have hu32 := Try.underlying32
 have HB := Aside0.mk (Below.refl w.heap.size w)
 have H : ((ax_.f k a0_0).bind fun t102 => (if t102 = true then ((ax_.f k a0_1).bind fun t103 => (if t103 = true then (if (a0_2.size : Int) ≤ 400 then ((strings_Contains.f a0_2 (⟨#[10]⟩ : ByteArray)).bind fun t104 => (some (!t104))) else (some false)) else (some false))) else (some false))) = some r := h
 clear h
 replace H := Option.bind_eq_some_iff.mp H
 obtain ⟨t102, A20, H⟩ := H
 (try dsimp only at H)
 have A2 := Aside0.mk A20
 clear A20
 by_cases c3 : t102 = true
 rotate_left
 ·replace c3 := Bool.eq_false_iff.mpr c3
  subst c3
  have H1 : (some false) = some r := by rw [if_neg (show ¬ (false = true) by decide)] at H; exact H
  clear H
  have H := H1
  clear H1
  obtain rfl := Option.some.inj H
  go_enter Try.func20, Try.ntmps20
  go_wp2_with (first | ((with_reducible refine aO_ (N := 1) rfl ?_); (try (refine gate_guard (by rfl) ?_; dsimp only)); refine bB_ ?hg (N := 1) ?hd (cs := #[.string a0_0, .string a0_1, .string a0_2]) (t := 32) ?hr ?_; (case hd => rfl); (case hg => rfl); (case hr => (go_simp; try rfl)); intro gb101 hg w14 hbox hb; have BK101 := Aside0.mk (hbox); have GW101 := Aside0.mk ((by rw [hg]; exact (am_ (bz HB.out)) : w.heap.size ≤ gb101)); have GE101 := GW101; replace HB := Aside0.mk (ah_ (bz HB.out) hb); clear hb hbox hg; obtain ⟨hcz15_0, hcz15_1, hcz15_2⟩ := cz3_ BK101.out; obtain ⟨hfz15_0, hfz15_1, hfz15_2⟩ := fz3_ BK101.out) | ((with_reducible refine al_ (f := 44) rfl ?_); refine ba_ (some 5) rfl rfl Try.func44 (by kernel_rfl) rfl #[.string a0_0] rfl (by first | rfl | (simp only [lma_, lmc_, lmn_]; first | done | rfl)) ?_; (with_reducible refine (ax_.calls k a0_0 false _ A2.out).mono ?_); rintro e w' ⟨rfl, ⟨nd, rfl⟩⟩; refine ⟨_, rfl, ?_⟩))
  go_ret
  exact ⟨by first | rfl | (simp [*, ay_, az_] <;> rfl), bq⟩
 subst c3
 have H1 : ((ax_.f k a0_1).bind fun t103 => (if t103 = true then (if (a0_2.size : Int) ≤ 400 then ((strings_Contains.f a0_2 (⟨#[10]⟩ : ByteArray)).bind fun t104 => (some (!t104))) else (some false)) else (some false))) = some r := by rw [if_pos rfl] at H; exact H
 clear H
 have H := H1
 clear H1
 replace H := Option.bind_eq_some_iff.mp H
 obtain ⟨t103, A40, H⟩ := H
 (try dsimp only at H)
 have A4 := Aside0.mk A40
 clear A40
 by_cases c5 : t103 = true
 rotate_left
 ·replace c5 := Bool.eq_false_iff.mpr c5
  subst c5
  have H1 : (some false) = some r := by rw [if_neg (show ¬ (false = true) by decide)] at H; exact H
  clear H
  have H := H1
  clear H1
  obtain rfl := Option.some.inj H
  go_enter Try.func20, Try.ntmps20
  go_wp2_with (first | ((with_reducible refine aO_ (N := 1) rfl ?_); (try (refine gate_guard (by rfl) ?_; dsimp only)); refine bB_ ?hg (N := 1) ?hd (cs := #[.string a0_0, .string a0_1, .string a0_2]) (t := 32) ?hr ?_; (case hd => rfl); (case hg => rfl); (case hr => (go_simp; try rfl)); intro gb101 hg w12 hbox hb; have BK101 := Aside0.mk (hbox); have GW101 := Aside0.mk ((by rw [hg]; exact (am_ (bz HB.out)) : w.heap.size ≤ gb101)); have GE101 := GW101; replace HB := Aside0.mk (ah_ (bz HB.out) hb); clear hb hbox hg; obtain ⟨hcz13_0, hcz13_1, hcz13_2⟩ := cz3_ BK101.out; obtain ⟨hfz13_0, hfz13_1, hfz13_2⟩ := fz3_ BK101.out) | ((with_reducible refine al_ (f := 44) rfl ?_); refine ba_ (some 5) rfl rfl Try.func44 (by kernel_rfl) rfl #[.string a0_0] rfl (by first | rfl | (simp only [lma_, lmc_, lmn_]; first | done | rfl)) ?_; (with_reducible refine (ax_.calls k a0_0 true _ A2.out).mono ?_); rintro e w' ⟨rfl, ⟨nd, rfl⟩⟩; refine ⟨_, rfl, ?_⟩) | (go_at_call 44; (with_reducible refine (ax_.calls k a0_1 false _ A4.out).mono ?_); rintro e w' ⟨rfl, ⟨nd, rfl⟩⟩))
  go_ret
  exact ⟨by first | rfl | (simp [*, ay_, az_] <;> rfl), bq⟩
 subst c5
 have H1 : (if (a0_2.size : Int) ≤ 400 then ((strings_Contains.f a0_2 (⟨#[10]⟩ : ByteArray)).bind fun t104 => (some (!t104))) else (some false)) = some r := by rw [if_pos rfl] at H; exact H
 clear H
 have H := H1
 clear H1
 by_cases c6 : (a0_2.size : Int) ≤ 400
 rotate_left
 ·rw [if_neg c6] at H
  have c6b0 : decide ((a0_2.size : Int) ≤ 400) = false := decide_eq_false c6
  have c6b1 : decide (a0_2.size ≤ 400) = false := decide_eq_false (by omega)
  clear c6
  obtain rfl := Option.some.inj H
  go_enter Try.func20, Try.ntmps20
  go_wp2_with (first | ((with_reducible refine aO_ (N := 1) rfl ?_); (try (refine gate_guard (by rfl) ?_; dsimp only)); refine bB_ ?hg (N := 1) ?hd (cs := #[.string a0_0, .string a0_1, .string a0_2]) (t := 32) ?hr ?_; (case hd => rfl); (case hg => rfl); (case hr => (go_simp; try rfl)); intro gb101 hg w10 hbox hb; have BK101 := Aside0.mk (hbox); have GW101 := Aside0.mk ((by rw [hg]; exact (am_ (bz HB.out)) : w.heap.size ≤ gb101)); have GE101 := GW101; replace HB := Aside0.mk (ah_ (bz HB.out) hb); clear hb hbox hg; obtain ⟨hcz11_0, hcz11_1, hcz11_2⟩ := cz3_ BK101.out; obtain ⟨hfz11_0, hfz11_1, hfz11_2⟩ := fz3_ BK101.out) | ((with_reducible refine al_ (f := 44) rfl ?_); refine ba_ (some 5) rfl rfl Try.func44 (by kernel_rfl) rfl #[.string a0_0] rfl (by first | rfl | (simp only [lma_, lmc_, lmn_]; first | done | rfl)) ?_; (with_reducible refine (ax_.calls k a0_0 true _ A2.out).mono ?_); rintro e w' ⟨rfl, ⟨nd, rfl⟩⟩; refine ⟨_, rfl, ?_⟩) | (go_at_call 44; (with_reducible refine (ax_.calls k a0_1 true _ A4.out).mono ?_); rintro e w' ⟨rfl, ⟨nd, rfl⟩⟩))
  go_ret
  exact ⟨by first | rfl | (simp [*, ay_, az_] <;> rfl), bq⟩
 rw [if_pos c6] at H
 have c6b0 : decide ((a0_2.size : Int) ≤ 400) = true := decide_eq_true c6
 have c6b1 : decide (a0_2.size ≤ 400) = true := decide_eq_true (by omega)
 clear c6
 replace H := Option.bind_eq_some_iff.mp H
 obtain ⟨t104, A70, H⟩ := H
 (try dsimp only at H)
 have A7 := Aside0.mk A70
 clear A70
 obtain rfl := Option.some.inj H
 go_enter Try.func20, Try.ntmps20
 go_wp2_with (first | ((with_reducible refine aO_ (N := 1) rfl ?_); (try (refine gate_guard (by rfl) ?_; dsimp only)); refine bB_ ?hg (N := 1) ?hd (cs := #[.string a0_0, .string a0_1, .string a0_2]) (t := 32) ?hr ?_; (case hd => rfl); (case hg => rfl); (case hr => (go_simp; try rfl)); intro gb101 hg w8 hbox hb; have BK101 := Aside0.mk (hbox); have GW101 := Aside0.mk ((by rw [hg]; exact (am_ (bz HB.out)) : w.heap.size ≤ gb101)); have GE101 := GW101; replace HB := Aside0.mk (ah_ (bz HB.out) hb); clear hb hbox hg; obtain ⟨hcz9_0, hcz9_1, hcz9_2⟩ := cz3_ BK101.out; obtain ⟨hfz9_0, hfz9_1, hfz9_2⟩ := fz3_ BK101.out) | ((with_reducible refine al_ (f := 44) rfl ?_); refine ba_ (some 5) rfl rfl Try.func44 (by kernel_rfl) rfl #[.string a0_0] rfl (by first | rfl | (simp only [lma_, lmc_, lmn_]; first | done | rfl)) ?_; (with_reducible refine (ax_.calls k a0_0 true _ A2.out).mono ?_); rintro e w' ⟨rfl, ⟨nd, rfl⟩⟩; refine ⟨_, rfl, ?_⟩) | (go_at_call 44; (with_reducible refine (ax_.calls k a0_1 true _ A4.out).mono ?_); rintro e w' ⟨rfl, ⟨nd, rfl⟩⟩) | (go_at_call 45; (with_reducible refine (strings_Contains.calls a0_2 (⟨#[10]⟩ : ByteArray) t104 _ A7.out).mono ?_); rintro e w' ⟨rfl, ⟨nd, rfl⟩⟩))
 go_ret
 exact ⟨by first | rfl | (simp [*, ay_, az_] <;> rfl), bq⟩
end Go.Proofs.Ytckboiphlhhckaa.Q
namespace Go.Proofs
set_option maxHeartbeats 1000000 in
set_option maxRecDepth 100000 in
theorem Try.bytealg_CompareString (a b : ByteArray) (w : World) :
  Calls Try.prog 68 #[.string a, .string b] w fun e w' => e = .returned (.int .i64 (Lib.compareBytes a.data.toList b.data.toList)) ∧ w' = w := by
 go_enter Try.func68, Try.ntmps68
 go_wp2
 rw [run_callFunc_extern Try.func80 (by kernel_rfl) (by kernel_rfl) (by kernel_rfl) (e := Extern.BytealgCompare.compare) (by kernel_rfl), Lib.run_compareString]
 simp only [Result.andThen]
 rw [Oper.upon_value]
 go_wp2
 go_ret
 exact ⟨rfl, rfl⟩
set_option maxHeartbeats 1000000 in
theorem Try.strings_Compare (a b : ByteArray) (w : World) :
  Calls Try.prog 60 #[.string a, .string b] w fun e w' => e = .returned (.int .i64 (Lib.compareBytes a.data.toList b.data.toList)) ∧ w' = w := by
 go_enter Try.func60, Try.ntmps60
 go_wp2_with (go_at_call 68; refine (Try.bytealg_CompareString _ _ _).mono ?_; rintro e w' ⟨rfl, rfl⟩)
 go_ret
 exact ⟨rfl, rfl⟩
end Go.Proofs
namespace Go.Proofs.Ytckboiphlhhckaa.Q
open Go.RowKit Go.Proofs.YtckboiphlhhckaaW.PrintWords Go.Proofs.YtckboiphlhhckaaW.PrintLast Go.Proofs.YtckboiphlhhckaaW.PrintMore
attribute [local go_sem] aU_ aV_ bj_ bi_ aH_ aJ_ aS_ aT_
def strings_Compare.f (a0 : ByteArray) (a1 : ByteArray) : Option (Int) := some (Go.Lib.compareBytes a0.data.toList a1.data.toList)
theorem strings_Compare.calls (a0 : ByteArray) (a1 : ByteArray) (r : Int) (w : World) (h : strings_Compare.f a0 a1 = some r) :
  Calls Try.prog 60 #[.string a0, .string a1] w fun e w' => e = .returned (.int .i64 r) ∧ au_ w w' := by
 obtain rfl := Option.some.inj h
 refine (Go.Proofs.Try.strings_Compare a0 a1 w).mono ?_
 rintro e w' ⟨rfl, rfl⟩
 exact ⟨rfl, au_.refl _⟩
def be_.f (a0_0 : ByteArray) (a0_1 : ByteArray) (a0_2 : ByteArray) (a1_0 : ByteArray) (a1_1 : ByteArray) (a1_2 : ByteArray) : Option (Int) := (strings_Compare.f a0_0 a1_0).bind fun t103 => (if t103 = 0 then ((strings_Compare.f a0_1 a1_1).bind fun t104 => (some t104)) else (some t103))
set_option maxHeartbeats 8000000 in
set_option maxRecDepth 100000 in
theorem be_.calls (a0_0 : ByteArray) (a0_1 : ByteArray) (a0_2 : ByteArray) (a1_0 : ByteArray) (a1_1 : ByteArray) (a1_2 : ByteArray) (r : Int) (w : World) (h : be_.f a0_0 a0_1 a0_2 a1_0 a1_1 a1_2 = some r) :
  Calls Try.prog 47 #[.agg #[.string a0_0, .string a0_1, .string a0_2], .agg #[.string a1_0, .string a1_1, .string a1_2]] w fun e w' => e = .returned (.int .i64 r) ∧ Below w.heap.size w w' := by
 have hu32 := Try.underlying32
 have HB := Aside0.mk (Below.refl w.heap.size w)
 have H : ((strings_Compare.f a0_0 a1_0).bind fun t103 => (if t103 = 0 then ((strings_Compare.f a0_1 a1_1).bind fun t104 => (some t104)) else (some t103))) = some r := h
 clear h
 replace H := Option.bind_eq_some_iff.mp H
 obtain ⟨t103, A30, H⟩ := H
 (try dsimp only at H)
 have A3 := Aside0.mk A30
 clear A30
 have HC4 := Aside0.mk H
 clear H
 go_enter Try.func47, Try.ntmps47
 go_upto_if 12 with (first | ((with_reducible refine aO_ (N := 2) rfl ?_); refine bB_ ?hg (N := 2) ?hd (cs := #[.string a0_0, .string a0_1, .string a0_2]) (t := 32) ?hr ?_; (case hd => rfl); (case hg => rfl); (case hr => (go_simp; try rfl)); intro gb101 hg w5 hbox hb; have BK101 := Aside0.mk (hbox); have GW101 := Aside0.mk ((by rw [hg]; exact (am_ (bz HB.out)) : w.heap.size ≤ gb101)); have GE101 := GW101; replace HB := Aside0.mk (ah_ (bz HB.out) hb); clear hb hbox hg) | ((with_reducible refine aO_ (N := 3) rfl ?_); refine bB_ ?hg (N := 3) ?hd (cs := #[.string a1_0, .string a1_1, .string a1_2]) (t := 32) ?hr ?_; (case hd => rfl); (case hg => rfl); (case hr => (go_simp; try rfl)); intro gb102 hg w6 hbox hb; have BK102 := Aside0.mk (hbox); have GW102 := Aside0.mk ((by rw [hg]; exact (am_ (bq)) : w.heap.size ≤ gb102)); have GE102 := GW102; replace HB := Aside0.mk (ah_ (bq) hb); have NB101_102 := Aside0.mk ((by rw [hg]; exact Nat.ne_of_lt (ca_ (kz BK101.out)) : gb101 ≠ gb102)); have NB102_101 := Aside0.mk ((by rw [hg]; exact Nat.ne_of_gt (ca_ (kz BK101.out)) : gb102 ≠ gb101)); replace BK101 := Aside0.mk (aA_ (kz BK101.out) hb); clear hb hbox hg; have hnb7 := NB101_102.out; have hnc7 := NB102_101.out; obtain ⟨hcz8_0, hcz8_1, hcz8_2⟩ := cz3_ BK101.out; obtain ⟨hfz8_0, hfz8_1, hfz8_2⟩ := fz3_ BK101.out; obtain ⟨hcz9_0, hcz9_1, hcz9_2⟩ := cz3_ BK102.out; obtain ⟨hfz9_0, hfz9_1, hfz9_2⟩ := fz3_ BK102.out) | ((with_reducible refine al_ (f := 60) rfl ?_); refine ba_ (some 10) rfl rfl Try.func60 (by kernel_rfl) rfl #[.string a0_0, .string a1_0] rfl (by first | rfl | (simp only [lma_, lmc_, lmn_]; first | done | rfl)) ?_; (with_reducible refine (strings_Compare.calls a0_0 a1_0 t103 _ A3.out).mono ?_); rintro e w' ⟨rfl, ⟨nd, rfl⟩⟩; refine ⟨_, rfl, ?_⟩; (try (rw [ch_ w6]; generalize hq_ : World.drewN w6 _ = w6; have n0_ : Aside0 (w6.heap[gb101]? = some (.cells #[.string a0_0, .string a0_1, .string a0_2] 32 (0, 0))) := ⟨by rw [← hq_]; exact (kz BK101.out)⟩; have n1_ : Aside0 (w6.heap[gb102]? = some (.cells #[.string a1_0, .string a1_1, .string a1_2] 32 (0, 0))) := ⟨by rw [← hq_]; exact (kz BK102.out)⟩; have n2_ : Aside0 (Below w.heap.size w w6) := ⟨by rw [← hq_]; exact (bq)⟩; clear BK101 BK102 HB hq_; have BK101 := n0_; have BK102 := n1_; have HB := n2_; clear n0_ n1_ n2_))))
 (try simp only [Act.put, lsa_, ls0_, ls1_])
 have H := HC4.out
 clear HC4
 by_cases c10 : t103 = 0
 rotate_left
 ·rw [if_neg c10] at H
  have c10b0 : (t103 == 0) = false := beq_eq_false_iff_ne.mpr c10
  have c10b1 : (t103 != 0) = true := bne_iff_ne.mpr c10
  (first | rw [c10b0] | (simp only [i64_w, i32_w]; rw [c10b0]) | (simp only [c10b1, Bool.not_true, Bool.not_false]) | (simp only [c10b0, Bool.not_true, Bool.not_false]) | skip)
  obtain rfl := Option.some.inj H
  go_wp2
  go_ret
  exact ⟨by first | rfl | (simp [*, ay_, az_] <;> rfl), bq⟩
 rw [if_pos c10] at H
 have c10b0 : (t103 == 0) = true := beq_iff_eq.mpr c10
 have c10b1 : (t103 != 0) = false := bne_eq_false_iff_eq.mpr c10
 clear c10
 (first | rw [c10b0] | (simp only [i64_w, i32_w]; rw [c10b0]) | (simp only [c10b1, Bool.not_true, Bool.not_false]) | (simp only [c10b0, Bool.not_true, Bool.not_false]) | skip)
 replace H := Option.bind_eq_some_iff.mp H
 obtain ⟨t104, A110, H⟩ := H
 (try dsimp only at H)
 have A11 := Aside0.mk A110
 clear A110
 obtain rfl := Option.some.inj H
 have hnb12 := NB101_102.out
 have hnc12 := NB102_101.out
 obtain ⟨hcz13_0, hcz13_1, hcz13_2⟩ := cz3_ BK101.out
 obtain ⟨hfz13_0, hfz13_1, hfz13_2⟩ := fz3_ BK101.out
 obtain ⟨hcz14_0, hcz14_1, hcz14_2⟩ := cz3_ BK102.out
 obtain ⟨hfz14_0, hfz14_1, hfz14_2⟩ := fz3_ BK102.out
 go_wp2_with (first | ((with_reducible refine al_ (f := 60) rfl ?_); refine ba_ (some 18) rfl rfl Try.func60 (by kernel_rfl) rfl #[.string a0_1, .string a1_1] rfl (by first | rfl | (simp only [lma_, lmc_, lmn_]; first | done | rfl)) ?_; (with_reducible refine (strings_Compare.calls a0_1 a1_1 t104 _ A11.out).mono ?_); rintro e w' ⟨rfl, ⟨nd, rfl⟩⟩; refine ⟨_, rfl, ?_⟩; (try (rw [ch_ w6]; generalize hq_ : World.drewN w6 _ = w6; have n0_ : Aside0 (w6.heap[gb101]? = some (.cells #[.string a0_0, .string a0_1, .string a0_2] 32 (0, 0))) := ⟨by rw [← hq_]; exact (kz BK101.out)⟩; have n1_ : Aside0 (w6.heap[gb102]? = some (.cells #[.string a1_0, .string a1_1, .string a1_2] 32 (0, 0))) := ⟨by rw [← hq_]; exact (kz BK102.out)⟩; have n2_ : Aside0 (Below w.heap.size w w6) := ⟨by rw [← hq_]; exact (bq)⟩; clear BK101 BK102 HB hq_; have BK101 := n0_; have BK102 := n1_; have HB := n2_; clear n0_ n1_ n2_))))
 go_ret
 exact ⟨by first | rfl | (simp [*, ay_, az_] <;> rfl), bq⟩
def aj_.l0 : Nat → List (S32) → List (S32) → Int → Int → Option (Bool)
 | 0, _, _, _, _ => none
 | k + 1, x0, x5, x6, x7 => if x7 < x6 then (if 0 ≤ x7 then (if x7 < (x5.length : Int) then ((bx_.f k ((aa_ x5 x7).f0) ((aa_ x5 x7).f1) ((aa_ x5 x7).f2)).bind fun t103 => (if t103 = true then (if x7 > 0 then (if 0 ≤ (wrap64 (x7 - 1)) then (if (wrap64 (x7 - 1)) < (x0.length : Int) then ((be_.f ((aa_ x0 (wrap64 (x7 - 1))).f0) ((aa_ x0 (wrap64 (x7 - 1))).f1) ((aa_ x0 (wrap64 (x7 - 1))).f2) ((aa_ x5 x7).f0) ((aa_ x5 x7).f1) ((aa_ x5 x7).f2)).bind fun t105 => (if t105 ≥ 0 then (some false) else (aj_.l0 k x0 x5 x6 (wrap64 (x7 + 1))))) else (none)) else (none)) else (aj_.l0 k x0 x5 x6 (wrap64 (x7 + 1)))) else (some false))) else (none)) else (none)) else (some (decide ((x0.length : Int) ≤ 32)))
def aj_.f (k : Nat) (l0 : List (S32)) : Option (Bool) := aj_.l0 k l0 l0 (l0.length : Int) 0
def aj_.T4 : Bool × List (List Nat × List Nat) := (true, [([], []), ([0], [0]), ([1], [1]), ([2, 1], [2]), ([3], [3]), ([4, 3], [3, 4]), ([5, 3, 3], [3, 5]), ([6], [6]), ([6], [6]), ([8, 6], [6, 8]), ([7, 9, 6], [6, 7, 9]), ([10, 6], [6, 10]), ([6], [6]), ([11, 12, 6, 6], [6, 11, 12]), ([13, 6], [6, 13]), ([6, 14, 3], [3, 6, 14]), ([3, 15], [3, 15])])
def aj_.B4 : List Nat := [0, 1, 3, 7, 15, 31, 63, 127, 127, 383, 1023, 2047, 127, 8191, 16383, 32767, 65535]
theorem aj_.tab4 : rtab .any (opsOf Try.f22 4) = aj_.T4 := by kernel_rfl
theorem aj_.bits4 : cH_ aj_.T4.2 aj_.B4 = true := by kernel_rfl
set_option maxHeartbeats 8000000 in
set_option maxRecDepth 100000 in
theorem aj_.calls (k : Nat) (A0 : Option Addr) (c0 : Nat) (l0 : List (S32)) (r : Bool) (w : World) (hr0 : Kd.C k32 w A0 l0.length l0) (hc0 : l0.length ≤ c0) (h : aj_.f k l0 = some r) :
  Calls Try.prog 22 #[.slice A0 l0.length c0] w fun e w' => e = .returned (.bool r) ∧ Below w.heap.size w w' := by
 have hu32 := Try.underlying32
 have HR0 := Aside0.mk hr0
 have HC0 := Aside0.mk hc0
 clear hr0 hc0
 have HB := Aside0.mk (Below.refl w.heap.size w)
 have H : (aj_.l0 k l0 l0 (l0.length : Int) 0) = some r := h
 clear h
 have H' := Aside0.mk H
 clear H
 go_enter Try.func22, Try.ntmps22
 go_wp2
 (try simp only [Act.put, lsa_, ls0_, ls1_])
 go_loopg [7] k (fun kq v7 w' => ∃ (x7_1 : Int), v7 = .int .i64 x7_1 ∧ Aside0 (aj_.l0 kq l0 l0 (l0.length : Int) x7_1 = some r) ∧ Aside0 (kq ≤ k) ∧ Aside0 (Below w.heap.size w w'))
 case atStart => exact ⟨(0), (by first | rfl | (simp; done) | (simp [*]; done)), H', ⟨Nat.le_refl _⟩, ⟨bz HB.out⟩⟩
 case round =>
  clear H'
  obtain ⟨x7_1, rfl, HA, HK1, HB⟩ := hrel
  cases gk with
  | zero => exact absurd HA.out (by simp [aj_.l0])
  | succ k1 =>
   have H := HA.out
   clear HA
   simp only [aj_.l0] at H
   by_cases c2 : x7_1 < (l0.length : Int)
   rotate_left
   ·rw [if_neg c2] at H
    have c2b0 : decide (x7_1 < (l0.length : Int)) = false := decide_eq_false c2
    clear c2
    obtain rfl := Option.some.inj H
    go_wp2
    go_ret
    exact ⟨by first | rfl | (simp [*, ay_, az_] <;> rfl), bz HB.out⟩
   rw [if_pos c2] at H
   have c2b0 : decide (x7_1 < (l0.length : Int)) = true := decide_eq_true c2
   clear c2
   by_cases c3 : 0 ≤ x7_1
   rotate_left
   ·rw [if_neg c3] at H
    exact absurd H (by simp)
   rw [if_pos c3] at H
   have c3b0 : decide (0 ≤ x7_1) = true := decide_eq_true c3
   clear c3
   by_cases c4 : x7_1 < (l0.length : Int)
   rotate_left
   ·rw [if_neg c4] at H
    exact absurd H (by simp)
   rw [if_pos c4] at H
   have c4b0 : decide (x7_1 < (l0.length : Int)) = true := decide_eq_true c4
   clear c4
   replace H := Option.bind_eq_some_iff.mp H
   obtain ⟨t103, A50, H⟩ := H
   (try dsimp only at H)
   have A5 := Aside0.mk A50
   clear A50
   by_cases c6 : t103 = true
   rotate_left
   ·replace c6 := Bool.eq_false_iff.mpr c6
    subst c6
    have H1 : (some false) = some r := by rw [if_neg (show ¬ (false = true) by decide)] at H; exact H
    clear H
    have H := H1
    clear H1
    obtain rfl := Option.some.inj H
    have p101 : 0 ≤ (x7_1 : Int) := of_decide_eq_true (by assumption)
    have q101 : x7_1 < (l0.length : Int) := of_decide_eq_true (by assumption)
    obtain ⟨ad101, e101, hx101_0, hx101_1, hx101_2⟩ := bf_ HR0.out x7_1 p101 q101
    cases e101
    replace hx101_0 := bu_ HB.out hx101_0
    replace hx101_1 := bu_ HB.out hx101_1
    replace hx101_2 := bu_ HB.out hx101_2
    replace p101 := eq_true p101
    replace q101 := eq_true q101
    try go_wp2_with (first | ((with_reducible refine aO_ (N := 4) rfl ?_); refine bB_ ?hg (N := 4) ?hd (cs := #[.string (⟨#[]⟩ : ByteArray), .string (⟨#[]⟩ : ByteArray), .string (⟨#[]⟩ : ByteArray)]) (t := 32) ?hr ?_; (case hd => rfl); (case hg => rfl); (case hr => (go_simp; try rfl)); intro gb102 hg w25 hbox hb; have BK102 := Aside0.mk (hbox); have GW102 := Aside0.mk ((by rw [hg]; exact (am_ (bz HB.out)) : w.heap.size ≤ gb102)); have GE102 := GW102; replace HB := Aside0.mk (ah_ (bz HB.out) hb); clear hb hbox hg; obtain ⟨hcz26_0, hcz26_1, hcz26_2⟩ := cz3_ BK102.out; obtain ⟨hfz26_0, hfz26_1, hfz26_2⟩ := fz3_ BK102.out))
    have n0_ : Aside0 ((((w25.setCell ⟨gb102, 0, none⟩ (.string ((aa_ l0 x7_1).f0))).setCell ⟨gb102, 1, none⟩ (.string ((aa_ l0 x7_1).f1))).setCell ⟨gb102, 2, none⟩ (.string ((aa_ l0 x7_1).f2))).heap[gb102]? = some (.cells #[.string ((aa_ l0 x7_1).f0), .string ((aa_ l0 x7_1).f1), .string ((aa_ l0 x7_1).f2)] 32 (0, 0))) := ⟨by exact kj3_2 (kj3_1 (kj3_0 (kz BK102.out)))⟩
    have n1_ : Aside0 (Below w.heap.size w (((w25.setCell ⟨gb102, 0, none⟩ (.string ((aa_ l0 x7_1).f0))).setCell ⟨gb102, 1, none⟩ (.string ((aa_ l0 x7_1).f1))).setCell ⟨gb102, 2, none⟩ (.string ((aa_ l0 x7_1).f2)))) := ⟨bq⟩
    (try clear BK102)
    (try clear HB)
    generalize (((w25.setCell ⟨gb102, 0, none⟩ (.string ((aa_ l0 x7_1).f0))).setCell ⟨gb102, 1, none⟩ (.string ((aa_ l0 x7_1).f1))).setCell ⟨gb102, 2, none⟩ (.string ((aa_ l0 x7_1).f2))) = w27 at n0_ n1_ ⊢
    have BK102 := n0_
    have HB := n1_
    clear n0_ n1_
    have n0_ := Aside0.mk (aZ_ BK102.out)
    have n1_ := Aside0.mk (bD_ HB.out)
    clear BK102
    clear HB
    have BK102 := n0_
    have HB := n1_
    clear n0_ n1_
    refine start_ (n := 17) (S := fun w' => w'.cell? ⟨gb102, 0, none⟩ = some (.string ((aa_ l0 x7_1).f0)) ∧ w'.cell? ⟨gb102, 1, none⟩ = some (.string ((aa_ l0 x7_1).f1)) ∧ w'.cell? ⟨gb102, 2, none⟩ = some (.string ((aa_ l0 x7_1).f2))) (ds := []) #[f_,f_,f_,f_,f_,f_,f_,f_,f_,f_,f_,f_,f_,f_,f_,f_,f_] (by kernel_rfl) rfl rfl ⟨(ar_ BK102.out 0).trans rfl, (ar_ BK102.out 1).trans rfl, (ar_ BK102.out 2).trans rfl⟩ (fun hHeld => ?_); refine cq_ aj_.tab4 aj_.bits4 (fun HT_ HW_ => ?_)
    generalize w27.drew = w28 at BK102 HB hHeld ⊢
    refine tk 0 12 #[t_,f_,f_,f_,f_,f_,f_,f_,f_,f_,f_,f_,f_,f_,f_,f_,f_] HT_ HW_ hHeld ?_ (hv := by rintro w' ⟨s0, s1, s2⟩; go_simp; with_reducible rfl)
    refine one_ (i := 1) (N := some 13) #[t_,t_,f_,f_,f_,f_,f_,f_,f_,f_,f_,f_,f_,f_,f_,f_,f_] rfl rfl (cr_ HT_.out (by kernel_rfl)) (by decide) (fun K hK => ?_)
    (first | refine goes_ Try.func20 (by kernel_rfl) rfl #[.agg #[.string ((aa_ l0 x7_1).f0), .string ((aa_ l0 x7_1).f1), .string ((aa_ l0 x7_1).f2)]] (by rfl) rfl rfl (by first | rfl | (simp only [lma_, lmc_, lmn_]; first | done | rfl)) ?_ | refine RPW.co_ Try.func20 (by kernel_rfl) rfl #[.agg #[.string ((aa_ l0 x7_1).f0), .string ((aa_ l0 x7_1).f1), .string ((aa_ l0 x7_1).f2)]] (by rfl) rfl rfl rfl (by first | rfl | (simp only [lma_, lmc_, lmn_]; first | done | rfl)) ?_ | refine RPW.cn_ Try.func20 (by kernel_rfl) rfl #[.agg #[.string ((aa_ l0 x7_1).f0), .string ((aa_ l0 x7_1).f1), .string ((aa_ l0 x7_1).f2)]] (by rfl) rfl rfl rfl (by first | rfl | (simp only [lma_, lmc_, lmn_]; first | done | rfl)) ?_)
    with_reducible refine (bx_.calls k1 ((aa_ l0 x7_1).f0) ((aa_ l0 x7_1).f1) ((aa_ l0 x7_1).f2) false _ A5.out).mono ?_
    rintro e w29 ⟨rfl, hb⟩
    refine ⟨_, rfl, ?_⟩
    have n0_ := Aside0.mk (aA_ (kz BK102.out) hb)
    have n1_ := Aside0.mk (ah_ (bq) hb)
    clear BK102
    clear HB
    have BK102 := n0_
    have HB := n1_
    clear n0_ n1_
    (try clear hb)
    refine hK.out _ _ ⟨(ar_ BK102.out 0).trans rfl, (ar_ BK102.out 1).trans rfl, (ar_ BK102.out 2).trans rfl⟩ (fun hHeld => ?_)
    clear hK K
    refine norm_ (a' := ?_) ?_ ?_
    rotate_left
    ·show Act.put _ (some 13) _ = _
     simp only [Act.put, lsa_, ls0_, ls1_, i64_w, i32_w]
     rfl
    refine pu 2 14 #[t_,t_,t_,f_,f_,f_,f_,f_,f_,f_,f_,f_,f_,f_,f_,f_,f_] HT_ ?_
    refine pu 3 15 #[t_,t_,t_,t_,f_,f_,f_,f_,f_,f_,f_,f_,f_,f_,f_,f_,f_] HT_ ?_
    refine pn 4 16 #[t_,t_,t_,t_,t_,f_,f_,f_,f_,f_,f_,f_,f_,f_,f_,f_,f_] HT_ ?_
    refine pn 5 17 #[t_,t_,t_,t_,t_,t_,f_,f_,f_,f_,f_,f_,f_,f_,f_,f_,f_] HT_ ?_
    refine pn 6 18 #[t_,t_,t_,t_,t_,t_,t_,f_,f_,f_,f_,f_,f_,f_,f_,f_,f_] HT_ ?_
    refine pn 7 19 #[t_,t_,t_,t_,t_,t_,t_,t_,f_,f_,f_,f_,f_,f_,f_,f_,f_] HT_ ?_
    refine pn 8 20 #[t_,t_,t_,t_,t_,t_,t_,t_,t_,f_,f_,f_,f_,f_,f_,f_,f_] HT_ ?_
    refine pn 9 21 #[t_,t_,t_,t_,t_,t_,t_,t_,t_,t_,f_,f_,f_,f_,f_,f_,f_] HT_ ?_
    refine pn 10 22 #[t_,t_,t_,t_,t_,t_,t_,t_,t_,t_,t_,f_,f_,f_,f_,f_,f_] HT_ ?_
    refine pn 11 23 #[t_,t_,t_,t_,t_,t_,t_,t_,t_,t_,t_,t_,f_,f_,f_,f_,f_] HT_ ?_
    refine pn 12 24 #[t_,t_,t_,t_,t_,t_,t_,t_,t_,t_,t_,t_,t_,f_,f_,f_,f_] HT_ ?_
    refine pn 13 25 #[t_,t_,t_,t_,t_,t_,t_,t_,t_,t_,t_,t_,t_,t_,f_,f_,f_] HT_ ?_
    refine pn 14 26 #[t_,t_,t_,t_,t_,t_,t_,t_,t_,t_,t_,t_,t_,t_,t_,f_,f_] HT_ ?_
    refine pn 15 27 #[t_,t_,t_,t_,t_,t_,t_,t_,t_,t_,t_,t_,t_,t_,t_,t_,f_] HT_ ?_
    refine pu 16 28 #[t_,t_,t_,t_,t_,t_,t_,t_,t_,t_,t_,t_,t_,t_,t_,t_,t_] HT_ ?_
    refine done_ (cL_ HT_.out (by kernel_rfl)) ?_
    try go_wp2
    go_ret
    exact ⟨by first | rfl | (simp [*, ay_, az_] <;> rfl), bq⟩
   subst c6
   have H1 : (if x7_1 > 0 then (if 0 ≤ (wrap64 (x7_1 - 1)) then (if (wrap64 (x7_1 - 1)) < (l0.length : Int) then ((be_.f ((aa_ l0 (wrap64 (x7_1 - 1))).f0) ((aa_ l0 (wrap64 (x7_1 - 1))).f1) ((aa_ l0 (wrap64 (x7_1 - 1))).f2) ((aa_ l0 x7_1).f0) ((aa_ l0 x7_1).f1) ((aa_ l0 x7_1).f2)).bind fun t105 => (if t105 ≥ 0 then (some false) else (aj_.l0 k1 l0 l0 (l0.length : Int) (wrap64 (x7_1 + 1))))) else (none)) else (none)) else (aj_.l0 k1 l0 l0 (l0.length : Int) (wrap64 (x7_1 + 1)))) = some r := by rw [if_pos rfl] at H; exact H
   clear H
   have H := H1
   clear H1
   by_cases c7 : x7_1 > 0
   rotate_left
   ·rw [if_neg c7] at H
    have c7b0 : decide (0 < x7_1) = false := decide_eq_false c7
    clear c7
    have H' := Aside0.mk H
    clear H
    have p101 : 0 ≤ (x7_1 : Int) := of_decide_eq_true (by assumption)
    have q101 : x7_1 < (l0.length : Int) := of_decide_eq_true (by assumption)
    obtain ⟨ad101, e101, hx101_0, hx101_1, hx101_2⟩ := bf_ HR0.out x7_1 p101 q101
    cases e101
    replace hx101_0 := bu_ HB.out hx101_0
    replace hx101_1 := bu_ HB.out hx101_1
    replace hx101_2 := bu_ HB.out hx101_2
    replace p101 := eq_true p101
    replace q101 := eq_true q101
    try go_wp2_with (first | ((with_reducible refine aO_ (N := 4) rfl ?_); refine bB_ ?hg (N := 4) ?hd (cs := #[.string (⟨#[]⟩ : ByteArray), .string (⟨#[]⟩ : ByteArray), .string (⟨#[]⟩ : ByteArray)]) (t := 32) ?hr ?_; (case hd => rfl); (case hg => rfl); (case hr => (go_simp; try rfl)); intro gb102 hg w20 hbox hb; have BK102 := Aside0.mk (hbox); have GW102 := Aside0.mk ((by rw [hg]; exact (am_ (bz HB.out)) : w.heap.size ≤ gb102)); have GE102 := GW102; replace HB := Aside0.mk (ah_ (bz HB.out) hb); clear hb hbox hg; obtain ⟨hcz21_0, hcz21_1, hcz21_2⟩ := cz3_ BK102.out; obtain ⟨hfz21_0, hfz21_1, hfz21_2⟩ := fz3_ BK102.out))
    have n0_ : Aside0 ((((w20.setCell ⟨gb102, 0, none⟩ (.string ((aa_ l0 x7_1).f0))).setCell ⟨gb102, 1, none⟩ (.string ((aa_ l0 x7_1).f1))).setCell ⟨gb102, 2, none⟩ (.string ((aa_ l0 x7_1).f2))).heap[gb102]? = some (.cells #[.string ((aa_ l0 x7_1).f0), .string ((aa_ l0 x7_1).f1), .string ((aa_ l0 x7_1).f2)] 32 (0, 0))) := ⟨by exact kj3_2 (kj3_1 (kj3_0 (kz BK102.out)))⟩
    have n1_ : Aside0 (Below w.heap.size w (((w20.setCell ⟨gb102, 0, none⟩ (.string ((aa_ l0 x7_1).f0))).setCell ⟨gb102, 1, none⟩ (.string ((aa_ l0 x7_1).f1))).setCell ⟨gb102, 2, none⟩ (.string ((aa_ l0 x7_1).f2)))) := ⟨bq⟩
    (try clear BK102)
    (try clear HB)
    generalize (((w20.setCell ⟨gb102, 0, none⟩ (.string ((aa_ l0 x7_1).f0))).setCell ⟨gb102, 1, none⟩ (.string ((aa_ l0 x7_1).f1))).setCell ⟨gb102, 2, none⟩ (.string ((aa_ l0 x7_1).f2))) = w22 at n0_ n1_ ⊢
    have BK102 := n0_
    have HB := n1_
    clear n0_ n1_
    have n0_ := Aside0.mk (aZ_ BK102.out)
    have n1_ := Aside0.mk (bD_ HB.out)
    clear BK102
    clear HB
    have BK102 := n0_
    have HB := n1_
    clear n0_ n1_
    refine start_ (n := 17) (S := fun w' => w'.cell? ⟨gb102, 0, none⟩ = some (.string ((aa_ l0 x7_1).f0)) ∧ w'.cell? ⟨gb102, 1, none⟩ = some (.string ((aa_ l0 x7_1).f1)) ∧ w'.cell? ⟨gb102, 2, none⟩ = some (.string ((aa_ l0 x7_1).f2))) (ds := []) #[f_,f_,f_,f_,f_,f_,f_,f_,f_,f_,f_,f_,f_,f_,f_,f_,f_] (by kernel_rfl) rfl rfl ⟨(ar_ BK102.out 0).trans rfl, (ar_ BK102.out 1).trans rfl, (ar_ BK102.out 2).trans rfl⟩ (fun hHeld => ?_); refine cq_ aj_.tab4 aj_.bits4 (fun HT_ HW_ => ?_)
    generalize w22.drew = w23 at BK102 HB hHeld ⊢
    refine tk 0 12 #[t_,f_,f_,f_,f_,f_,f_,f_,f_,f_,f_,f_,f_,f_,f_,f_,f_] HT_ HW_ hHeld ?_ (hv := by rintro w' ⟨s0, s1, s2⟩; go_simp; with_reducible rfl)
    refine one_ (i := 1) (N := some 13) #[t_,t_,f_,f_,f_,f_,f_,f_,f_,f_,f_,f_,f_,f_,f_,f_,f_] rfl rfl (cr_ HT_.out (by kernel_rfl)) (by decide) (fun K hK => ?_)
    (first | refine goes_ Try.func20 (by kernel_rfl) rfl #[.agg #[.string ((aa_ l0 x7_1).f0), .string ((aa_ l0 x7_1).f1), .string ((aa_ l0 x7_1).f2)]] (by rfl) rfl rfl (by first | rfl | (simp only [lma_, lmc_, lmn_]; first | done | rfl)) ?_ | refine RPW.co_ Try.func20 (by kernel_rfl) rfl #[.agg #[.string ((aa_ l0 x7_1).f0), .string ((aa_ l0 x7_1).f1), .string ((aa_ l0 x7_1).f2)]] (by rfl) rfl rfl rfl (by first | rfl | (simp only [lma_, lmc_, lmn_]; first | done | rfl)) ?_ | refine RPW.cn_ Try.func20 (by kernel_rfl) rfl #[.agg #[.string ((aa_ l0 x7_1).f0), .string ((aa_ l0 x7_1).f1), .string ((aa_ l0 x7_1).f2)]] (by rfl) rfl rfl rfl (by first | rfl | (simp only [lma_, lmc_, lmn_]; first | done | rfl)) ?_)
    with_reducible refine (bx_.calls k1 ((aa_ l0 x7_1).f0) ((aa_ l0 x7_1).f1) ((aa_ l0 x7_1).f2) true _ A5.out).mono ?_
    rintro e w24 ⟨rfl, hb⟩
    refine ⟨_, rfl, ?_⟩
    have n0_ := Aside0.mk (aA_ (kz BK102.out) hb)
    have n1_ := Aside0.mk (ah_ (bq) hb)
    clear BK102
    clear HB
    have BK102 := n0_
    have HB := n1_
    clear n0_ n1_
    (try clear hb)
    refine hK.out _ _ ⟨(ar_ BK102.out 0).trans rfl, (ar_ BK102.out 1).trans rfl, (ar_ BK102.out 2).trans rfl⟩ (fun hHeld => ?_)
    clear hK K
    refine norm_ (a' := ?_) ?_ ?_
    rotate_left
    ·show Act.put _ (some 13) _ = _
     simp only [Act.put, lsa_, ls0_, ls1_, i64_w, i32_w]
     rfl
    refine pu 2 14 #[t_,t_,t_,f_,f_,f_,f_,f_,f_,f_,f_,f_,f_,f_,f_,f_,f_] HT_ ?_
    refine pu 3 15 #[t_,t_,t_,t_,f_,f_,f_,f_,f_,f_,f_,f_,f_,f_,f_,f_,f_] HT_ ?_
    refine pu 4 16 #[t_,t_,t_,t_,t_,f_,f_,f_,f_,f_,f_,f_,f_,f_,f_,f_,f_] HT_ ?_
    refine pu 5 17 #[t_,t_,t_,t_,t_,t_,f_,f_,f_,f_,f_,f_,f_,f_,f_,f_,f_] HT_ ?_
    refine pu 6 18 #[t_,t_,t_,t_,t_,t_,t_,f_,f_,f_,f_,f_,f_,f_,f_,f_,f_] HT_ ?_
    refine pn 7 19 #[t_,t_,t_,t_,t_,t_,t_,t_,f_,f_,f_,f_,f_,f_,f_,f_,f_] HT_ ?_
    refine pn 8 20 #[t_,t_,t_,t_,t_,t_,t_,t_,t_,f_,f_,f_,f_,f_,f_,f_,f_] HT_ ?_
    refine pn 9 21 #[t_,t_,t_,t_,t_,t_,t_,t_,t_,t_,f_,f_,f_,f_,f_,f_,f_] HT_ ?_
    refine pn 10 22 #[t_,t_,t_,t_,t_,t_,t_,t_,t_,t_,t_,f_,f_,f_,f_,f_,f_] HT_ ?_
    refine pn 11 23 #[t_,t_,t_,t_,t_,t_,t_,t_,t_,t_,t_,t_,f_,f_,f_,f_,f_] HT_ ?_
    refine pn 12 24 #[t_,t_,t_,t_,t_,t_,t_,t_,t_,t_,t_,t_,t_,f_,f_,f_,f_] HT_ ?_
    refine pn 13 25 #[t_,t_,t_,t_,t_,t_,t_,t_,t_,t_,t_,t_,t_,t_,f_,f_,f_] HT_ ?_
    refine pn 14 26 #[t_,t_,t_,t_,t_,t_,t_,t_,t_,t_,t_,t_,t_,t_,t_,f_,f_] HT_ ?_
    refine pu 15 27 #[t_,t_,t_,t_,t_,t_,t_,t_,t_,t_,t_,t_,t_,t_,t_,t_,f_] HT_ ?_
    refine pu 16 28 #[t_,t_,t_,t_,t_,t_,t_,t_,t_,t_,t_,t_,t_,t_,t_,t_,t_] HT_ ?_
    refine done_ (cL_ HT_.out (by kernel_rfl)) ?_
    try go_wp2
    go_roundg k1
    case measure => have := HK1.out; omega
    case rel => exact ⟨(wrap64 (x7_1 + 1)), (by first | rfl | (simp; done) | (simp [*]; done)), H', ⟨by have := HK1.out; omega⟩, ⟨bq⟩⟩
   rw [if_pos c7] at H
   have c7b0 : decide (0 < x7_1) = true := decide_eq_true c7
   clear c7
   obtain ⟨ji8, hji8⟩ : ∃ j_ : Int, (wrap64 (x7_1 - 1)) = j_ := ⟨_, rfl⟩
   replace H : (if 0 ≤ (ji8) then (if (ji8) < (l0.length : Int) then ((be_.f ((aa_ l0 (ji8)).f0) ((aa_ l0 (ji8)).f1) ((aa_ l0 (ji8)).f2) ((aa_ l0 x7_1).f0) ((aa_ l0 x7_1).f1) ((aa_ l0 x7_1).f2)).bind fun t105 => (if t105 ≥ 0 then (some false) else (aj_.l0 k1 l0 l0 (l0.length : Int) (wrap64 (x7_1 + 1))))) else (none)) else (none)) = some r := by first | (rw [hji8] at H; exact H) | (simp only [hji8] at H ⊢; exact H)
   (try rw [hji8] at A5)
   have hji8w : (IntKind.i64.wrap (x7_1 - 1)) = ji8 := (i64_w _).trans hji8
   by_cases c9 : 0 ≤ (ji8)
   rotate_left
   ·rw [if_neg c9] at H
    exact absurd H (by simp)
   rw [if_pos c9] at H
   have c9b0 : decide (0 ≤ (ji8)) = true := decide_eq_true c9
   clear c9
   by_cases c10 : (ji8) < (l0.length : Int)
   rotate_left
   ·rw [if_neg c10] at H
    exact absurd H (by simp)
   rw [if_pos c10] at H
   have c10b0 : decide ((ji8) < (l0.length : Int)) = true := decide_eq_true c10
   clear c10
   replace H := Option.bind_eq_some_iff.mp H
   obtain ⟨t105, A110, H⟩ := H
   (try dsimp only at H)
   have A11 := Aside0.mk A110
   clear A110
   have HC12 := Aside0.mk H
   clear H
   have p101 : 0 ≤ (x7_1 : Int) := of_decide_eq_true (by assumption)
   have q101 : x7_1 < (l0.length : Int) := of_decide_eq_true (by assumption)
   obtain ⟨ad101, e101, hx101_0, hx101_1, hx101_2⟩ := bf_ HR0.out x7_1 p101 q101
   cases e101
   replace hx101_0 := bu_ HB.out hx101_0
   replace hx101_1 := bu_ HB.out hx101_1
   replace hx101_2 := bu_ HB.out hx101_2
   replace p101 := eq_true p101
   replace q101 := eq_true q101
   try go_wp2_with (first | ((with_reducible refine aO_ (N := 4) rfl ?_); refine bB_ ?hg (N := 4) ?hd (cs := #[.string (⟨#[]⟩ : ByteArray), .string (⟨#[]⟩ : ByteArray), .string (⟨#[]⟩ : ByteArray)]) (t := 32) ?hr ?_; (case hd => rfl); (case hg => rfl); (case hr => (go_simp; try rfl)); intro gb102 hg w13 hbox hb; have BK102 := Aside0.mk (hbox); have GW102 := Aside0.mk ((by rw [hg]; exact (am_ (bz HB.out)) : w.heap.size ≤ gb102)); have GE102 := GW102; replace HB := Aside0.mk (ah_ (bz HB.out) hb); clear hb hbox hg; obtain ⟨hcz14_0, hcz14_1, hcz14_2⟩ := cz3_ BK102.out; obtain ⟨hfz14_0, hfz14_1, hfz14_2⟩ := fz3_ BK102.out))
   have n0_ : Aside0 ((((w13.setCell ⟨gb102, 0, none⟩ (.string ((aa_ l0 x7_1).f0))).setCell ⟨gb102, 1, none⟩ (.string ((aa_ l0 x7_1).f1))).setCell ⟨gb102, 2, none⟩ (.string ((aa_ l0 x7_1).f2))).heap[gb102]? = some (.cells #[.string ((aa_ l0 x7_1).f0), .string ((aa_ l0 x7_1).f1), .string ((aa_ l0 x7_1).f2)] 32 (0, 0))) := ⟨by exact kj3_2 (kj3_1 (kj3_0 (kz BK102.out)))⟩
   have n1_ : Aside0 (Below w.heap.size w (((w13.setCell ⟨gb102, 0, none⟩ (.string ((aa_ l0 x7_1).f0))).setCell ⟨gb102, 1, none⟩ (.string ((aa_ l0 x7_1).f1))).setCell ⟨gb102, 2, none⟩ (.string ((aa_ l0 x7_1).f2)))) := ⟨bq⟩
   (try clear BK102)
   (try clear HB)
   generalize (((w13.setCell ⟨gb102, 0, none⟩ (.string ((aa_ l0 x7_1).f0))).setCell ⟨gb102, 1, none⟩ (.string ((aa_ l0 x7_1).f1))).setCell ⟨gb102, 2, none⟩ (.string ((aa_ l0 x7_1).f2))) = w15 at n0_ n1_ ⊢
   have BK102 := n0_
   have HB := n1_
   clear n0_ n1_
   have n0_ := Aside0.mk (aZ_ BK102.out)
   have n1_ := Aside0.mk (bD_ HB.out)
   clear BK102
   clear HB
   have BK102 := n0_
   have HB := n1_
   clear n0_ n1_
   have p104 : 0 ≤ ((ji8) : Int) := of_decide_eq_true (by assumption)
   have q104 : (ji8) < (l0.length : Int) := of_decide_eq_true (by assumption)
   obtain ⟨ad104, e104, hx104_0, hx104_1, hx104_2⟩ := bf_ HR0.out (ji8) p104 q104
   have hw104_2 := hx104_2
   have hw104_1 := hx104_1
   have hw104_0 := hx104_0
   obtain rfl : ad101 = ad104 := (by injection e104)
   replace hx104_0 := bu_ HB.out hx104_0
   replace hx104_1 := bu_ HB.out hx104_1
   replace hx104_2 := bu_ HB.out hx104_2
   replace p104 := eq_true p104
   replace q104 := eq_true q104
   refine start_ (n := 17) (S := fun w' => w'.cell? ⟨gb102, 0, none⟩ = some (.string ((aa_ l0 x7_1).f0)) ∧ w'.cell? ⟨gb102, 1, none⟩ = some (.string ((aa_ l0 x7_1).f1)) ∧ w'.cell? ⟨gb102, 2, none⟩ = some (.string ((aa_ l0 x7_1).f2)) ∧ w'.cell? (ad101.add (((ji8)).toNat * 3)) = some (.string ((aa_ l0 (ji8)).f0)) ∧ w'.cell? ⟨(ad101.add (((ji8)).toNat * 3)).block, (ad101.add (((ji8)).toNat * 3)).off + 1, none⟩ = some (.string ((aa_ l0 (ji8)).f1)) ∧ w'.cell? ⟨(ad101.add (((ji8)).toNat * 3)).block, (ad101.add (((ji8)).toNat * 3)).off + 2, none⟩ = some (.string ((aa_ l0 (ji8)).f2))) (ds := []) #[f_,f_,f_,f_,f_,f_,f_,f_,f_,f_,f_,f_,f_,f_,f_,f_,f_] (by kernel_rfl) rfl rfl ⟨(ar_ BK102.out 0).trans rfl, (ar_ BK102.out 1).trans rfl, (ar_ BK102.out 2).trans rfl, (bv_ HB.out hw104_0), (bv_ HB.out hw104_1), (bv_ HB.out hw104_2)⟩ (fun hHeld => ?_); refine cq_ aj_.tab4 aj_.bits4 (fun HT_ HW_ => ?_)
   generalize w15.drew = w16 at BK102 HB hx104_0 hx104_1 hx104_2 hHeld ⊢
   refine tk 0 12 #[t_,f_,f_,f_,f_,f_,f_,f_,f_,f_,f_,f_,f_,f_,f_,f_,f_] HT_ HW_ hHeld ?_ (hv := by rintro w' ⟨s0, s1, s2, s3, s4, s5⟩; go_simp; with_reducible rfl)
   refine one_ (i := 1) (N := some 13) #[t_,t_,f_,f_,f_,f_,f_,f_,f_,f_,f_,f_,f_,f_,f_,f_,f_] rfl rfl (cr_ HT_.out (by kernel_rfl)) (by decide) (fun K hK => ?_)
   (first | refine goes_ Try.func20 (by kernel_rfl) rfl #[.agg #[.string ((aa_ l0 x7_1).f0), .string ((aa_ l0 x7_1).f1), .string ((aa_ l0 x7_1).f2)]] (by rfl) rfl rfl (by first | rfl | (simp only [lma_, lmc_, lmn_]; first | done | rfl)) ?_ | refine RPW.co_ Try.func20 (by kernel_rfl) rfl #[.agg #[.string ((aa_ l0 x7_1).f0), .string ((aa_ l0 x7_1).f1), .string ((aa_ l0 x7_1).f2)]] (by rfl) rfl rfl rfl (by first | rfl | (simp only [lma_, lmc_, lmn_]; first | done | rfl)) ?_ | refine RPW.cn_ Try.func20 (by kernel_rfl) rfl #[.agg #[.string ((aa_ l0 x7_1).f0), .string ((aa_ l0 x7_1).f1), .string ((aa_ l0 x7_1).f2)]] (by rfl) rfl rfl rfl (by first | rfl | (simp only [lma_, lmc_, lmn_]; first | done | rfl)) ?_)
   with_reducible refine (bx_.calls k1 ((aa_ l0 x7_1).f0) ((aa_ l0 x7_1).f1) ((aa_ l0 x7_1).f2) true _ A5.out).mono ?_
   rintro e w17 ⟨rfl, hb⟩
   refine ⟨_, rfl, ?_⟩
   have n0_ := Aside0.mk (aA_ (kz BK102.out) hb)
   have n1_ := Aside0.mk (ah_ (bq) hb)
   clear BK102
   clear HB
   have BK102 := n0_
   have HB := n1_
   clear n0_ n1_
   (try clear hb)
   refine hK.out _ _ ⟨(ar_ BK102.out 0).trans rfl, (ar_ BK102.out 1).trans rfl, (ar_ BK102.out 2).trans rfl, (bv_ HB.out hw104_0), (bv_ HB.out hw104_1), (bv_ HB.out hw104_2)⟩ (fun hHeld => ?_)
   clear hK K
   refine norm_ (a' := ?_) ?_ ?_
   rotate_left
   ·show Act.put _ (some 13) _ = _
    simp only [Act.put, lsa_, ls0_, ls1_, i64_w, i32_w]
    rfl
   refine pu 2 14 #[t_,t_,t_,f_,f_,f_,f_,f_,f_,f_,f_,f_,f_,f_,f_,f_,f_] HT_ ?_
   refine pu 3 15 #[t_,t_,t_,t_,f_,f_,f_,f_,f_,f_,f_,f_,f_,f_,f_,f_,f_] HT_ ?_
   refine pu 4 16 #[t_,t_,t_,t_,t_,f_,f_,f_,f_,f_,f_,f_,f_,f_,f_,f_,f_] HT_ ?_
   refine pu 5 17 #[t_,t_,t_,t_,t_,t_,f_,f_,f_,f_,f_,f_,f_,f_,f_,f_,f_] HT_ ?_
   refine pu 6 18 #[t_,t_,t_,t_,t_,t_,t_,f_,f_,f_,f_,f_,f_,f_,f_,f_,f_] HT_ ?_
   refine pu 7 19 #[t_,t_,t_,t_,t_,t_,t_,t_,f_,f_,f_,f_,f_,f_,f_,f_,f_] HT_ ?_
   refine pu 8 20 #[t_,t_,t_,t_,t_,t_,t_,t_,t_,f_,f_,f_,f_,f_,f_,f_,f_] HT_ ?_
   refine pu 9 21 #[t_,t_,t_,t_,t_,t_,t_,t_,t_,t_,f_,f_,f_,f_,f_,f_,f_] HT_ ?_
   refine pu 10 22 #[t_,t_,t_,t_,t_,t_,t_,t_,t_,t_,t_,f_,f_,f_,f_,f_,f_] HT_ ?_
   refine tk 11 23 #[t_,t_,t_,t_,t_,t_,t_,t_,t_,t_,t_,t_,f_,f_,f_,f_,f_] HT_ HW_ hHeld ?_ (hv := by rintro w' ⟨s0, s1, s2, s3, s4, s5⟩; go_simp; with_reducible rfl)
   refine tk 12 24 #[t_,t_,t_,t_,t_,t_,t_,t_,t_,t_,t_,t_,t_,f_,f_,f_,f_] HT_ HW_ hHeld ?_ (hv := by rintro w' ⟨s0, s1, s2, s3, s4, s5⟩; go_simp; with_reducible rfl)
   refine one_ (i := 13) (N := some 25) #[t_,t_,t_,t_,t_,t_,t_,t_,t_,t_,t_,t_,t_,t_,f_,f_,f_] rfl rfl (cr_ HT_.out (by kernel_rfl)) (by decide) (fun K hK => ?_)
   (first | refine goes_ Try.func47 (by kernel_rfl) rfl #[.agg #[.string ((aa_ l0 (ji8)).f0), .string ((aa_ l0 (ji8)).f1), .string ((aa_ l0 (ji8)).f2)], .agg #[.string ((aa_ l0 x7_1).f0), .string ((aa_ l0 x7_1).f1), .string ((aa_ l0 x7_1).f2)]] (by rfl) rfl rfl (by (try simp only [List.map_toArray, List.map_cons, List.map_nil]); first | done | (simp only [hji8]; rfl) | rfl | (simp only [List.length_drop, List.length_take]; rfl)) ?_ | refine RPW.co_ Try.func47 (by kernel_rfl) rfl #[.agg #[.string ((aa_ l0 (ji8)).f0), .string ((aa_ l0 (ji8)).f1), .string ((aa_ l0 (ji8)).f2)], .agg #[.string ((aa_ l0 x7_1).f0), .string ((aa_ l0 x7_1).f1), .string ((aa_ l0 x7_1).f2)]] (by rfl) rfl rfl rfl (by (try simp only [List.map_toArray, List.map_cons, List.map_nil]); first | done | (simp only [hji8]; rfl) | rfl | (simp only [List.length_drop, List.length_take]; rfl)) ?_ | refine RPW.cn_ Try.func47 (by kernel_rfl) rfl #[.agg #[.string ((aa_ l0 (ji8)).f0), .string ((aa_ l0 (ji8)).f1), .string ((aa_ l0 (ji8)).f2)], .agg #[.string ((aa_ l0 x7_1).f0), .string ((aa_ l0 x7_1).f1), .string ((aa_ l0 x7_1).f2)]] (by rfl) rfl rfl rfl (by (try simp only [List.map_toArray, List.map_cons, List.map_nil]); first | done | (simp only [hji8]; rfl) | rfl | (simp only [List.length_drop, List.length_take]; rfl)) ?_)
   with_reducible refine (be_.calls ((aa_ l0 (ji8)).f0) ((aa_ l0 (ji8)).f1) ((aa_ l0 (ji8)).f2) ((aa_ l0 x7_1).f0) ((aa_ l0 x7_1).f1) ((aa_ l0 x7_1).f2) t105 _ A11.out).mono ?_
   rintro e w18 ⟨rfl, hb⟩
   refine ⟨_, rfl, ?_⟩
   have n0_ := Aside0.mk (aA_ (kz BK102.out) hb)
   have n1_ := Aside0.mk (ah_ (bq) hb)
   clear BK102
   clear HB
   have BK102 := n0_
   have HB := n1_
   clear n0_ n1_
   (try clear hb)
   refine hK.out _ _ ⟨(ar_ BK102.out 0).trans rfl, (ar_ BK102.out 1).trans rfl, (ar_ BK102.out 2).trans rfl, (bv_ HB.out hw104_0), (bv_ HB.out hw104_1), (bv_ HB.out hw104_2)⟩ (fun hHeld => ?_)
   clear hK K
   refine norm_ (a' := ?_) ?_ ?_
   rotate_left
   ·show Act.put _ (some 25) _ = _
    simp only [Act.put, lsa_, ls0_, ls1_, i64_w, i32_w]
    rfl
   refine pu 14 26 #[t_,t_,t_,t_,t_,t_,t_,t_,t_,t_,t_,t_,t_,t_,t_,f_,f_] HT_ ?_
   refine pu 15 27 #[t_,t_,t_,t_,t_,t_,t_,t_,t_,t_,t_,t_,t_,t_,t_,t_,f_] HT_ ?_
   refine pu 16 28 #[t_,t_,t_,t_,t_,t_,t_,t_,t_,t_,t_,t_,t_,t_,t_,t_,t_] HT_ ?_
   refine done_ (cL_ HT_.out (by kernel_rfl)) ?_
   go_upto_if 28 with (fail)
   have H := HC12.out
   clear HC12
   by_cases c19 : t105 ≥ 0
   rotate_left
   ·rw [if_neg c19] at H
    have c19b0 : decide (0 ≤ t105) = false := decide_eq_false c19
    clear c19
    (first | rw [c19b0] | (simp only [i64_w, i32_w]; rw [c19b0]) | (simp only [c19b1, Bool.not_true, Bool.not_false]) | (simp only [c19b0, Bool.not_true, Bool.not_false]) | skip)
    have H' := Aside0.mk H
    clear H
    go_wp2
    go_roundg k1
    case measure => have := HK1.out; omega
    case rel => exact ⟨(wrap64 (x7_1 + 1)), (by first | rfl | (simp; done) | (simp [*]; done)), H', ⟨by have := HK1.out; omega⟩, ⟨bq⟩⟩
   rw [if_pos c19] at H
   have c19b0 : decide (0 ≤ t105) = true := decide_eq_true c19
   clear c19
   (first | rw [c19b0] | (simp only [i64_w, i32_w]; rw [c19b0]) | (simp only [c19b1, Bool.not_true, Bool.not_false]) | (simp only [c19b0, Bool.not_true, Bool.not_false]) | skip)
   obtain rfl := Option.some.inj H
   go_wp2
   go_ret
   exact ⟨by first | rfl | (simp [ay_, az_] <;> rfl) | (simp only [← hji8]; first | rfl | (simp [ay_, az_] <;> rfl)) | (simp [*, ay_, az_] <;> rfl), bq⟩
def ap_.l0 : Nat → List (S32) → Int → Int → Int → ByteArray → ByteArray → ByteArray → Option (Int × Bool)
 | 0, _, _, _, _, _, _, _ => none
 | k + 1, x0, x8, x9, x10, x102000, x102001, x102002 => if x9 < x10 then (if 0 ≤ (wrap64 ((IntKind.u64.wrap (wrap64 (x9 + x10))) / 2)) then (if (wrap64 ((IntKind.u64.wrap (wrap64 (x9 + x10))) / 2)) < (x0.length : Int) then ((be_.f ((aa_ x0 (wrap64 ((IntKind.u64.wrap (wrap64 (x9 + x10))) / 2))).f0) ((aa_ x0 (wrap64 ((IntKind.u64.wrap (wrap64 (x9 + x10))) / 2))).f1) ((aa_ x0 (wrap64 ((IntKind.u64.wrap (wrap64 (x9 + x10))) / 2))).f2) x102000 x102001 x102002).bind fun t103 => (if t103 < 0 then (ap_.l0 k x0 x8 (wrap64 ((wrap64 ((IntKind.u64.wrap (wrap64 (x9 + x10))) / 2)) + 1)) x10 x102000 x102001 x102002) else (ap_.l0 k x0 x8 x9 (wrap64 ((IntKind.u64.wrap (wrap64 (x9 + x10))) / 2)) x102000 x102001 x102002))) else (none)) else (none)) else (if x9 < x8 then (if 0 ≤ x9 then (if x9 < (x0.length : Int) then ((be_.f ((aa_ x0 x9).f0) ((aa_ x0 x9).f1) ((aa_ x0 x9).f2) x102000 x102001 x102002).bind fun t105 => (some (x9, (t105 == 0)))) else (none)) else (none)) else (some (x9, false)))
def ap_.f (k : Nat) (l0 : List (S32)) (a1_0 : ByteArray) (a1_1 : ByteArray) (a1_2 : ByteArray)  : Option (Int × Bool) := ap_.l0 k l0 (l0.length : Int) 0 (l0.length : Int) a1_0 a1_1 a1_2
def ap_.T5 : Bool × List (List Nat × List Nat) := (true, [([], []), ([], []), ([], []), ([1, 2], [1, 2]), ([3], [3]), ([], []), ([0, 4, 5], [0, 4, 5]), ([6], [6])])
def ap_.B5 : List Nat := [0, 0, 0, 6, 14, 0, 63, 127]
theorem ap_.tab5 : rtab .any (opsOf Try.f49 5) = ap_.T5 := by kernel_rfl
theorem ap_.bits5 : cH_ ap_.T5.2 ap_.B5 = true := by kernel_rfl
def ap_.T8 : Bool × List (List Nat × List Nat) := (true, [([], []), ([], []), ([], []), ([1, 2], [1, 2]), ([3], [3]), ([4], [4]), ([4], [4]), ([4], [4]), ([6, 7, 4], [4, 6, 7]), ([8, 4], [4, 8]), ([4], [4]), ([5, 9, 10, 4, 4], [4, 5, 9, 10]), ([11, 4], [4, 11]), ([4, 12], [4, 12]), ([0, 11, 0], [0]), ([13, 14, 0, 1, 2, 3, 4, 5, 6, 7, 8, 9, 10, 11, 12, 13, 14], [13])])
def ap_.B8 : List Nat := [0, 0, 0, 6, 14, 30, 30, 30, 222, 478, 30, 2046, 4094, 8190, 4095, 32767]
theorem ap_.tab8 : rtab .any (opsOf Try.f49 8) = ap_.T8 := by kernel_rfl
theorem ap_.bits8 : cH_ ap_.T8.2 ap_.B8 = true := by kernel_rfl
set_option maxHeartbeats 8000000 in
set_option maxRecDepth 100000 in
theorem ap_.calls (k : Nat) (A0 : Option Addr) (c0 : Nat) (l0 : List (S32)) (a1_0 : ByteArray) (a1_1 : ByteArray) (a1_2 : ByteArray)  (r1 : Int) (r2 : Bool) (w : World) (hr0 : Kd.C k32 w A0 l0.length l0) (hc0 : l0.length ≤ c0) (h : ap_.f k l0 a1_0 a1_1 a1_2 = some (r1, r2)) :
  Calls Try.prog 49 #[.slice A0 l0.length c0, .agg #[.string a1_0, .string a1_1, .string a1_2], .func (.func 47) #[] #[]] w fun e w' => e = .returned (.tuple #[.int .i64 r1, .bool r2]) ∧ Below w.heap.size w w' := by
 have hu32 := Try.underlying32
 have HR0 := Aside0.mk hr0
 have HC0 := Aside0.mk hc0
 clear hr0 hc0
 have HB := Aside0.mk (Below.refl w.heap.size w)
 have H : (ap_.l0 k l0 (l0.length : Int) 0 (l0.length : Int) a1_0 a1_1 a1_2) = some (r1, r2) := h
 clear h
 have H' := Aside0.mk H
 clear H
 go_enter Try.func49, Try.ntmps49
 go_wp2_with (first | ((with_reducible refine aO_ (N := 4) rfl ?_); refine bB_ ?hg (N := 4) ?hd (cs := #[.string a1_0, .string a1_1, .string a1_2]) (t := 32) ?hr ?_; (case hd => rfl); (case hg => rfl); (case hr => (go_simp; try rfl)); intro gb101 hg w4 hbox hb; have BK101 := Aside0.mk (hbox); have GW101 := Aside0.mk ((by rw [hg]; exact (am_ (bz HB.out)) : w.heap.size ≤ gb101)); have GE101 := GW101; replace HB := Aside0.mk (ah_ (bz HB.out) hb); clear hb hbox hg))
 (try simp only [Act.put, lsa_, ls0_, ls1_])
 go_loopg [9, 10] k (fun kq v9 v10 w' => ∃ (x9_1 : Int) (x10_1 : Int), v9 = .int .i64 x9_1 ∧ v10 = .int .i64 x10_1 ∧ Aside0 (ap_.l0 kq l0 (l0.length : Int) x9_1 x10_1 a1_0 a1_1 a1_2 = some (r1, r2)) ∧ Aside0 (kq ≤ k) ∧ Aside0 (w'.heap[gb101]? = some (.cells #[.string a1_0, .string a1_1, .string a1_2] 32 (0, 0))) ∧ Aside0 (Below w.heap.size w w'))
 case atStart => exact ⟨(0), ((l0.length : Int)), (by first | rfl | (simp; done) | (simp [*]; done)), (by first | rfl | (simp; done) | (simp [*]; done)), H', ⟨Nat.le_refl _⟩, ⟨by (with_reducible repeat (first | refine bh_ ?_ _ | refine aZ_ ?_ | refine aR_ ?_ _)); exact BK101.out⟩, ⟨bq⟩⟩
 case round =>
  clear H'
  obtain ⟨x9_1, x10_1, rfl, rfl, HA, HK1, BK101, HB⟩ := hrel
  cases gk with
  | zero => exact absurd HA.out (by simp [ap_.l0])
  | succ k1 =>
   have H := HA.out
   clear HA
   simp only [ap_.l0] at H
   by_cases c5 : x9_1 < x10_1
   rotate_left
   ·rw [if_neg c5] at H
    have c5b0 : decide (x9_1 < x10_1) = false := decide_eq_false c5
    clear c5
    by_cases c14 : x9_1 < (l0.length : Int)
    rotate_left
    ·rw [if_neg c14] at H
     have c14b0 : decide (x9_1 < (l0.length : Int)) = false := decide_eq_false c14
     clear c14
     simp only [Option.some.injEq, Prod.mk.injEq] at H
     obtain ⟨rfl, rfl⟩ := H
     try go_wp2
     have n0_ := Aside0.mk (aZ_ BK101.out)
     have n1_ := Aside0.mk (bD_ HB.out)
     clear BK101
     clear HB
     have BK101 := n0_
     have HB := n1_
     clear n0_ n1_
     refine start_ (n := 16) (S := fun w' => True) (ds := []) #[f_,f_,f_,f_,f_,f_,f_,f_,f_,f_,f_,f_,f_,f_,f_,f_] (by kernel_rfl) rfl rfl trivial (fun hHeld => ?_); refine cq_ ap_.tab8 ap_.bits8 (fun HT_ HW_ => ?_)
     generalize wr.drew = w20 at BK101 HB hHeld ⊢
     refine pu 0 35 #[t_,f_,f_,f_,f_,f_,f_,f_,f_,f_,f_,f_,f_,f_,f_,f_] HT_ ?_
     refine pu 1 36 #[t_,t_,f_,f_,f_,f_,f_,f_,f_,f_,f_,f_,f_,f_,f_,f_] HT_ ?_
     refine pu 2 37 #[t_,t_,t_,f_,f_,f_,f_,f_,f_,f_,f_,f_,f_,f_,f_,f_] HT_ ?_
     refine pu 3 38 #[t_,t_,t_,t_,f_,f_,f_,f_,f_,f_,f_,f_,f_,f_,f_,f_] HT_ ?_
     refine pu 4 39 #[t_,t_,t_,t_,t_,f_,f_,f_,f_,f_,f_,f_,f_,f_,f_,f_] HT_ ?_
     refine pn 5 40 #[t_,t_,t_,t_,t_,t_,f_,f_,f_,f_,f_,f_,f_,f_,f_,f_] HT_ ?_
     refine pn 6 41 #[t_,t_,t_,t_,t_,t_,t_,f_,f_,f_,f_,f_,f_,f_,f_,f_] HT_ ?_
     refine pn 7 42 #[t_,t_,t_,t_,t_,t_,t_,t_,f_,f_,f_,f_,f_,f_,f_,f_] HT_ ?_
     refine pn 8 43 #[t_,t_,t_,t_,t_,t_,t_,t_,t_,f_,f_,f_,f_,f_,f_,f_] HT_ ?_
     refine pn 9 44 #[t_,t_,t_,t_,t_,t_,t_,t_,t_,t_,f_,f_,f_,f_,f_,f_] HT_ ?_
     refine pn 10 45 #[t_,t_,t_,t_,t_,t_,t_,t_,t_,t_,t_,f_,f_,f_,f_,f_] HT_ ?_
     refine pn 11 46 #[t_,t_,t_,t_,t_,t_,t_,t_,t_,t_,t_,t_,f_,f_,f_,f_] HT_ ?_
     refine pn 12 47 #[t_,t_,t_,t_,t_,t_,t_,t_,t_,t_,t_,t_,t_,f_,f_,f_] HT_ ?_
     refine pu 13 48 #[t_,t_,t_,t_,t_,t_,t_,t_,t_,t_,t_,t_,t_,t_,f_,f_] HT_ ?_
     refine pu 14 6 #[t_,t_,t_,t_,t_,t_,t_,t_,t_,t_,t_,t_,t_,t_,t_,f_] HT_ ?_
     refine pu 15 7 #[t_,t_,t_,t_,t_,t_,t_,t_,t_,t_,t_,t_,t_,t_,t_,t_] HT_ ?_
     refine done_ (cL_ HT_.out (by kernel_rfl)) ?_
     try go_wp2
     go_ret2
     exact ⟨by first | rfl | (simp [*, ay_, az_] <;> rfl), bq⟩
    rw [if_pos c14] at H
    have c14b0 : decide (x9_1 < (l0.length : Int)) = true := decide_eq_true c14
    clear c14
    by_cases c15 : 0 ≤ x9_1
    rotate_left
    ·rw [if_neg c15] at H
     exact absurd H (by simp)
    rw [if_pos c15] at H
    have c15b0 : decide (0 ≤ x9_1) = true := decide_eq_true c15
    clear c15
    by_cases c16 : x9_1 < (l0.length : Int)
    rotate_left
    ·rw [if_neg c16] at H
     exact absurd H (by simp)
    rw [if_pos c16] at H
    have c16b0 : decide (x9_1 < (l0.length : Int)) = true := decide_eq_true c16
    clear c16
    replace H := Option.bind_eq_some_iff.mp H
    obtain ⟨t105, A170, H⟩ := H
    (try dsimp only at H)
    have A17 := Aside0.mk A170
    clear A170
    simp only [Option.some.injEq, Prod.mk.injEq] at H
    obtain ⟨rfl, rfl⟩ := H
    try go_wp2
    have n0_ := Aside0.mk (aZ_ BK101.out)
    have n1_ := Aside0.mk (bD_ HB.out)
    clear BK101
    clear HB
    have BK101 := n0_
    have HB := n1_
    clear n0_ n1_
    have p104 : 0 ≤ (x9_1 : Int) := of_decide_eq_true (by assumption)
    have q104 : x9_1 < (l0.length : Int) := of_decide_eq_true (by assumption)
    obtain ⟨ad104, e104, hx104_0, hx104_1, hx104_2⟩ := bf_ HR0.out x9_1 p104 q104
    have hw104_2 := hx104_2
    have hw104_1 := hx104_1
    have hw104_0 := hx104_0
    cases e104
    replace hx104_0 := bu_ HB.out hx104_0
    replace hx104_1 := bu_ HB.out hx104_1
    replace hx104_2 := bu_ HB.out hx104_2
    replace p104 := eq_true p104
    replace q104 := eq_true q104
    refine start_ (n := 16) (S := fun w' => w'.cell? ⟨gb101, 0, none⟩ = some (.string a1_0) ∧ w'.cell? ⟨gb101, 1, none⟩ = some (.string a1_1) ∧ w'.cell? ⟨gb101, 2, none⟩ = some (.string a1_2) ∧ w'.cell? (ad104.add ((x9_1).toNat * 3)) = some (.string ((aa_ l0 x9_1).f0)) ∧ w'.cell? ⟨(ad104.add ((x9_1).toNat * 3)).block, (ad104.add ((x9_1).toNat * 3)).off + 1, none⟩ = some (.string ((aa_ l0 x9_1).f1)) ∧ w'.cell? ⟨(ad104.add ((x9_1).toNat * 3)).block, (ad104.add ((x9_1).toNat * 3)).off + 2, none⟩ = some (.string ((aa_ l0 x9_1).f2))) (ds := []) #[f_,f_,f_,f_,f_,f_,f_,f_,f_,f_,f_,f_,f_,f_,f_,f_] (by kernel_rfl) rfl rfl ⟨(ar_ BK101.out 0).trans rfl, (ar_ BK101.out 1).trans rfl, (ar_ BK101.out 2).trans rfl, (bv_ HB.out hw104_0), (bv_ HB.out hw104_1), (bv_ HB.out hw104_2)⟩ (fun hHeld => ?_); refine cq_ ap_.tab8 ap_.bits8 (fun HT_ HW_ => ?_)
    generalize wr.drew = w18 at BK101 HB hx104_0 hx104_1 hx104_2 hHeld ⊢
    refine pu 0 35 #[t_,f_,f_,f_,f_,f_,f_,f_,f_,f_,f_,f_,f_,f_,f_,f_] HT_ ?_
    refine pu 1 36 #[t_,t_,f_,f_,f_,f_,f_,f_,f_,f_,f_,f_,f_,f_,f_,f_] HT_ ?_
    refine pu 2 37 #[t_,t_,t_,f_,f_,f_,f_,f_,f_,f_,f_,f_,f_,f_,f_,f_] HT_ ?_
    refine pu 3 38 #[t_,t_,t_,t_,f_,f_,f_,f_,f_,f_,f_,f_,f_,f_,f_,f_] HT_ ?_
    refine pu 4 39 #[t_,t_,t_,t_,t_,f_,f_,f_,f_,f_,f_,f_,f_,f_,f_,f_] HT_ ?_
    refine pu 5 40 #[t_,t_,t_,t_,t_,t_,f_,f_,f_,f_,f_,f_,f_,f_,f_,f_] HT_ ?_
    refine pu 6 41 #[t_,t_,t_,t_,t_,t_,t_,f_,f_,f_,f_,f_,f_,f_,f_,f_] HT_ ?_
    refine pu 7 42 #[t_,t_,t_,t_,t_,t_,t_,t_,f_,f_,f_,f_,f_,f_,f_,f_] HT_ ?_
    refine pu 8 43 #[t_,t_,t_,t_,t_,t_,t_,t_,t_,f_,f_,f_,f_,f_,f_,f_] HT_ ?_
    refine tk 9 44 #[t_,t_,t_,t_,t_,t_,t_,t_,t_,t_,f_,f_,f_,f_,f_,f_] HT_ HW_ hHeld ?_ (hv := by rintro w' ⟨s0, s1, s2, s3, s4, s5⟩; go_simp; with_reducible rfl)
    refine tk 10 45 #[t_,t_,t_,t_,t_,t_,t_,t_,t_,t_,t_,f_,f_,f_,f_,f_] HT_ HW_ hHeld ?_ (hv := by rintro w' ⟨s0, s1, s2, s3, s4, s5⟩; go_simp; with_reducible rfl)
    refine one_ (i := 11) (N := some 46) #[t_,t_,t_,t_,t_,t_,t_,t_,t_,t_,t_,t_,f_,f_,f_,f_] rfl rfl (cr_ HT_.out (by kernel_rfl)) (by decide) (fun K hK => ?_)
    (first | refine goes_ Try.func47 (by kernel_rfl) rfl #[.agg #[.string ((aa_ l0 x9_1).f0), .string ((aa_ l0 x9_1).f1), .string ((aa_ l0 x9_1).f2)], .agg #[.string a1_0, .string a1_1, .string a1_2]] (by rfl) rfl rfl (by first | rfl | (simp only [lma_, lmc_, lmn_]; first | done | rfl)) ?_ | refine RPW.co_ Try.func47 (by kernel_rfl) rfl #[.agg #[.string ((aa_ l0 x9_1).f0), .string ((aa_ l0 x9_1).f1), .string ((aa_ l0 x9_1).f2)], .agg #[.string a1_0, .string a1_1, .string a1_2]] (by rfl) rfl rfl rfl (by first | rfl | (simp only [lma_, lmc_, lmn_]; first | done | rfl)) ?_ | refine RPW.cn_ Try.func47 (by kernel_rfl) rfl #[.agg #[.string ((aa_ l0 x9_1).f0), .string ((aa_ l0 x9_1).f1), .string ((aa_ l0 x9_1).f2)], .agg #[.string a1_0, .string a1_1, .string a1_2]] (by rfl) rfl rfl rfl (by first | rfl | (simp only [lma_, lmc_, lmn_]; first | done | rfl)) ?_)
    with_reducible refine (be_.calls ((aa_ l0 x9_1).f0) ((aa_ l0 x9_1).f1) ((aa_ l0 x9_1).f2) a1_0 a1_1 a1_2 t105 _ A17.out).mono ?_
    rintro e w19 ⟨rfl, hb⟩
    refine ⟨_, rfl, ?_⟩
    have n0_ := Aside0.mk (aA_ (kz BK101.out) hb)
    have n1_ := Aside0.mk (ah_ (bq) hb)
    clear BK101
    clear HB
    have BK101 := n0_
    have HB := n1_
    clear n0_ n1_
    (try clear hb)
    refine hK.out _ _ ⟨(ar_ BK101.out 0).trans rfl, (ar_ BK101.out 1).trans rfl, (ar_ BK101.out 2).trans rfl, (bv_ HB.out hw104_0), (bv_ HB.out hw104_1), (bv_ HB.out hw104_2)⟩ (fun hHeld => ?_)
    clear hK K
    refine norm_ (a' := ?_) ?_ ?_
    rotate_left
    ·show Act.put _ (some 46) _ = _
     simp only [Act.put, lsa_, ls0_, ls1_, i64_w, i32_w]
     rfl
    refine pu 12 47 #[t_,t_,t_,t_,t_,t_,t_,t_,t_,t_,t_,t_,t_,f_,f_,f_] HT_ ?_
    refine pu 13 48 #[t_,t_,t_,t_,t_,t_,t_,t_,t_,t_,t_,t_,t_,t_,f_,f_] HT_ ?_
    refine pu 14 6 #[t_,t_,t_,t_,t_,t_,t_,t_,t_,t_,t_,t_,t_,t_,t_,f_] HT_ ?_
    refine pu 15 7 #[t_,t_,t_,t_,t_,t_,t_,t_,t_,t_,t_,t_,t_,t_,t_,t_] HT_ ?_
    refine done_ (cL_ HT_.out (by kernel_rfl)) ?_
    try go_wp2
    go_ret2
    exact ⟨by first | rfl | (simp [*, ay_, az_] <;> rfl), bq⟩
   rw [if_pos c5] at H
   have c5b0 : decide (x9_1 < x10_1) = true := decide_eq_true c5
   clear c5
   obtain ⟨ji6, hji6⟩ : ∃ j_ : Int, (wrap64 ((IntKind.u64.wrap (wrap64 (x9_1 + x10_1))) / 2)) = j_ := ⟨_, rfl⟩
   replace H : (if 0 ≤ (ji6) then (if (ji6) < (l0.length : Int) then ((be_.f ((aa_ l0 (ji6)).f0) ((aa_ l0 (ji6)).f1) ((aa_ l0 (ji6)).f2) a1_0 a1_1 a1_2).bind fun t103 => (if t103 < 0 then (ap_.l0 k1 l0 (l0.length : Int) (wrap64 ((ji6) + 1)) x10_1 a1_0 a1_1 a1_2) else (ap_.l0 k1 l0 (l0.length : Int) x9_1 ji6 a1_0 a1_1 a1_2))) else (none)) else (none)) = some (r1, r2) := by first | (rw [hji6] at H; exact H) | (simp only [hji6] at H ⊢; exact H)
   have hji6w : (IntKind.i64.wrap ((IntKind.u64.wrap (wrap64 (x9_1 + x10_1))) / 2)) = ji6 := (i64_w _).trans hji6
   by_cases c7 : 0 ≤ (ji6)
   rotate_left
   ·rw [if_neg c7] at H
    exact absurd H (by simp)
   rw [if_pos c7] at H
   have c7b0 : decide (0 ≤ (ji6)) = true := decide_eq_true c7
   clear c7
   by_cases c8 : (ji6) < (l0.length : Int)
   rotate_left
   ·rw [if_neg c8] at H
    exact absurd H (by simp)
   rw [if_pos c8] at H
   have c8b0 : decide ((ji6) < (l0.length : Int)) = true := decide_eq_true c8
   clear c8
   replace H := Option.bind_eq_some_iff.mp H
   obtain ⟨t103, A90, H⟩ := H
   (try dsimp only at H)
   have A9 := Aside0.mk A90
   clear A90
   have HC10 := Aside0.mk H
   clear H
   try go_wp2
   have n0_ := Aside0.mk (aZ_ BK101.out)
   have n1_ := Aside0.mk (bD_ HB.out)
   clear BK101
   clear HB
   have BK101 := n0_
   have HB := n1_
   clear n0_ n1_
   have p102 : 0 ≤ ((ji6) : Int) := of_decide_eq_true (by assumption)
   have q102 : (ji6) < (l0.length : Int) := of_decide_eq_true (by assumption)
   obtain ⟨ad102, e102, hx102_0, hx102_1, hx102_2⟩ := bf_ HR0.out (ji6) p102 q102
   have hw102_2 := hx102_2
   have hw102_1 := hx102_1
   have hw102_0 := hx102_0
   cases e102
   replace hx102_0 := bu_ HB.out hx102_0
   replace hx102_1 := bu_ HB.out hx102_1
   replace hx102_2 := bu_ HB.out hx102_2
   replace p102 := eq_true p102
   replace q102 := eq_true q102
   refine start_ (n := 8) (S := fun w' => w'.cell? ⟨gb101, 0, none⟩ = some (.string a1_0) ∧ w'.cell? ⟨gb101, 1, none⟩ = some (.string a1_1) ∧ w'.cell? ⟨gb101, 2, none⟩ = some (.string a1_2) ∧ w'.cell? (ad102.add (((ji6)).toNat * 3)) = some (.string ((aa_ l0 (ji6)).f0)) ∧ w'.cell? ⟨(ad102.add (((ji6)).toNat * 3)).block, (ad102.add (((ji6)).toNat * 3)).off + 1, none⟩ = some (.string ((aa_ l0 (ji6)).f1)) ∧ w'.cell? ⟨(ad102.add (((ji6)).toNat * 3)).block, (ad102.add (((ji6)).toNat * 3)).off + 2, none⟩ = some (.string ((aa_ l0 (ji6)).f2))) (ds := []) #[f_,f_,f_,f_,f_,f_,f_,f_] (by kernel_rfl) rfl rfl ⟨(ar_ BK101.out 0).trans rfl, (ar_ BK101.out 1).trans rfl, (ar_ BK101.out 2).trans rfl, (bv_ HB.out hw102_0), (bv_ HB.out hw102_1), (bv_ HB.out hw102_2)⟩ (fun hHeld => ?_); refine cq_ ap_.tab5 ap_.bits5 (fun HT_ HW_ => ?_)
   generalize wr.drew = w11 at BK101 HB hx102_0 hx102_1 hx102_2 hHeld ⊢
   refine pu 0 24 #[t_,f_,f_,f_,f_,f_,f_,f_] HT_ ?_
   refine pu 1 25 #[t_,t_,f_,f_,f_,f_,f_,f_] HT_ ?_
   refine pu 2 26 #[t_,t_,t_,f_,f_,f_,f_,f_] HT_ ?_
   refine pu 3 27 #[t_,t_,t_,t_,f_,f_,f_,f_] HT_ ?_
   refine tk 4 28 #[t_,t_,t_,t_,t_,f_,f_,f_] HT_ HW_ hHeld ?_ (hv := by rintro w' ⟨s0, s1, s2, s3, s4, s5⟩; go_simp; with_reducible rfl)
   refine tk 5 29 #[t_,t_,t_,t_,t_,t_,f_,f_] HT_ HW_ hHeld ?_ (hv := by rintro w' ⟨s0, s1, s2, s3, s4, s5⟩; go_simp; with_reducible rfl)
   refine one_ (i := 6) (N := some 30) #[t_,t_,t_,t_,t_,t_,t_,f_] rfl rfl (cr_ HT_.out (by kernel_rfl)) (by decide) (fun K hK => ?_)
   (first | refine goes_ Try.func47 (by kernel_rfl) rfl #[.agg #[.string ((aa_ l0 (ji6)).f0), .string ((aa_ l0 (ji6)).f1), .string ((aa_ l0 (ji6)).f2)], .agg #[.string a1_0, .string a1_1, .string a1_2]] (by rfl) rfl rfl (by (try simp only [List.map_toArray, List.map_cons, List.map_nil]); first | done | (simp only [hji6]; rfl) | rfl | (simp only [List.length_drop, List.length_take]; rfl)) ?_ | refine RPW.co_ Try.func47 (by kernel_rfl) rfl #[.agg #[.string ((aa_ l0 (ji6)).f0), .string ((aa_ l0 (ji6)).f1), .string ((aa_ l0 (ji6)).f2)], .agg #[.string a1_0, .string a1_1, .string a1_2]] (by rfl) rfl rfl rfl (by (try simp only [List.map_toArray, List.map_cons, List.map_nil]); first | done | (simp only [hji6]; rfl) | rfl | (simp only [List.length_drop, List.length_take]; rfl)) ?_ | refine RPW.cn_ Try.func47 (by kernel_rfl) rfl #[.agg #[.string ((aa_ l0 (ji6)).f0), .string ((aa_ l0 (ji6)).f1), .string ((aa_ l0 (ji6)).f2)], .agg #[.string a1_0, .string a1_1, .string a1_2]] (by rfl) rfl rfl rfl (by (try simp only [List.map_toArray, List.map_cons, List.map_nil]); first | done | (simp only [hji6]; rfl) | rfl | (simp only [List.length_drop, List.length_take]; rfl)) ?_)
   with_reducible refine (be_.calls ((aa_ l0 (ji6)).f0) ((aa_ l0 (ji6)).f1) ((aa_ l0 (ji6)).f2) a1_0 a1_1 a1_2 t103 _ A9.out).mono ?_
   rintro e w12 ⟨rfl, hb⟩
   refine ⟨_, rfl, ?_⟩
   have n0_ := Aside0.mk (aA_ (kz BK101.out) hb)
   have n1_ := Aside0.mk (ah_ (bq) hb)
   clear BK101
   clear HB
   have BK101 := n0_
   have HB := n1_
   clear n0_ n1_
   (try clear hb)
   refine hK.out _ _ ⟨(ar_ BK101.out 0).trans rfl, (ar_ BK101.out 1).trans rfl, (ar_ BK101.out 2).trans rfl, (bv_ HB.out hw102_0), (bv_ HB.out hw102_1), (bv_ HB.out hw102_2)⟩ (fun hHeld => ?_)
   clear hK K
   refine norm_ (a' := ?_) ?_ ?_
   rotate_left
   ·show Act.put _ (some 30) _ = _
    simp only [Act.put, lsa_, ls0_, ls1_, i64_w, i32_w]
    rfl
   refine pu 7 31 #[t_,t_,t_,t_,t_,t_,t_,t_] HT_ ?_
   refine done_ (cL_ HT_.out (by kernel_rfl)) ?_
   go_upto_if 31 with (fail)
   have H := HC10.out
   clear HC10
   by_cases c13 : t103 < 0
   rotate_left
   ·rw [if_neg c13] at H
    have c13b0 : decide (t103 < 0) = false := decide_eq_false c13
    clear c13
    (first | rw [c13b0] | (simp only [i64_w, i32_w]; rw [c13b0]) | (simp only [c13b1, Bool.not_true, Bool.not_false]) | (simp only [c13b0, Bool.not_true, Bool.not_false]) | skip)
    have H' := Aside0.mk H
    clear H
    go_wp2
    go_roundg k1
    case measure => have := HK1.out; omega
    case rel => exact ⟨(x9_1), (ji6), (by first | rfl | (simp; done) | (simp [*]; done)), (by first | rfl | (simp; done) | (simp only [← hji6] <;> (first | rfl | simp)) | (simp [*]; done)), H', ⟨by have := HK1.out; omega⟩, ⟨by (with_reducible repeat (first | refine bh_ ?_ _ | refine aZ_ ?_ | refine aR_ ?_ _)); exact BK101.out⟩, ⟨bq⟩⟩
   rw [if_pos c13] at H
   have c13b0 : decide (t103 < 0) = true := decide_eq_true c13
   clear c13
   (first | rw [c13b0] | (simp only [i64_w, i32_w]; rw [c13b0]) | (simp only [c13b1, Bool.not_true, Bool.not_false]) | (simp only [c13b0, Bool.not_true, Bool.not_false]) | skip)
   have H' := Aside0.mk H
   clear H
   go_wp2
   go_roundg k1
   case measure => have := HK1.out; omega
   case rel => exact ⟨(wrap64 ((ji6) + 1)), (x10_1), (by first | rfl | (simp; done) | (simp only [← hji6] <;> (first | rfl | simp)) | (simp [*]; done)), (by first | rfl | (simp; done) | (simp [*]; done)), H', ⟨by have := HK1.out; omega⟩, ⟨by (with_reducible repeat (first | refine bh_ ?_ _ | refine aZ_ ?_ | refine aR_ ?_ _)); exact BK101.out⟩, ⟨bq⟩⟩
def bw_.f (k : Nat) (l0 : List (S32)) (a1 : ByteArray) (a2 : ByteArray) : Option (ByteArray × Int) := (aj_.f k l0).bind fun t101 => (if t101 = true then ((ap_.f k l0 a1 a2 (⟨#[]⟩ : ByteArray)).bind fun bt102 => (if bt102.2 = true then (if 0 ≤ bt102.1 then (if bt102.1 < (l0.length : Int) then (some ((aa_ l0 bt102.1).f2, 0)) else (none)) else (none)) else (some ((⟨#[]⟩ : ByteArray), 3)))) else (some ((⟨#[]⟩ : ByteArray), 1)))
set_option maxHeartbeats 8000000 in
set_option maxRecDepth 100000 in
theorem bw_.calls (k : Nat) (A0 : Option Addr) (c0 : Nat) (l0 : List (S32)) (a1 : ByteArray) (a2 : ByteArray) (r1 : ByteArray) (r2 : Int) (w : World) (hr0 : Kd.C k32 w A0 l0.length l0) (hc0 : l0.length ≤ c0) (h : bw_.f k l0 a1 a2 = some (r1, r2)) :
  Calls Try.prog 24 #[.slice A0 l0.length c0, .string a1, .string a2] w fun e w' => e = .returned (.tuple #[.string r1, .int .i64 r2]) ∧ Below w.heap.size w w' := by
 have hu32 := Try.underlying32
 have HR0 := Aside0.mk hr0
 have HC0 := Aside0.mk hc0
 clear hr0 hc0
 have HB := Aside0.mk (Below.refl w.heap.size w)
 have H : ((aj_.f k l0).bind fun t101 => (if t101 = true then ((ap_.f k l0 a1 a2 (⟨#[]⟩ : ByteArray)).bind fun bt102 => (if bt102.2 = true then (if 0 ≤ bt102.1 then (if bt102.1 < (l0.length : Int) then (some ((aa_ l0 bt102.1).f2, 0)) else (none)) else (none)) else (some ((⟨#[]⟩ : ByteArray), 3)))) else (some ((⟨#[]⟩ : ByteArray), 1)))) = some (r1, r2) := h
 clear h
 replace H := Option.bind_eq_some_iff.mp H
 obtain ⟨t101, A40, H⟩ := H
 (try dsimp only at H)
 have A4 := Aside0.mk A40
 clear A40
 have HC5 := Aside0.mk H
 clear H
 go_enter Try.func24, Try.ntmps24
 go_upto_if 12 with (first | ((with_reducible refine al_ (f := 22) rfl ?_); refine ba_ (some 11) rfl rfl Try.func22 (by kernel_rfl) rfl #[.slice A0 l0.length c0] rfl (by first | rfl | (simp only [lma_, lmc_, lmn_]; first | done | rfl)) ?_; (with_reducible refine (aj_.calls k _ _ l0 t101 _ ?side1 ?side2 A4.out).mono ?_); (case side1 => exact cz HR0.out); (case side2 => exact HC0.out); rintro e w6 ⟨rfl, hb⟩; refine ⟨_, rfl, ?_⟩; replace HB := Aside0.mk (ah_ (bz HB.out) hb); (try clear hb)))
 (try simp only [Act.put, lsa_, ls0_, ls1_])
 have H := HC5.out
 clear HC5
 by_cases c7 : t101 = true
 rotate_left
 ·replace c7 := Bool.eq_false_iff.mpr c7
  subst c7
  have H1 : (some ((⟨#[]⟩ : ByteArray), 1)) = some (r1, r2) := by rw [if_neg (show ¬ (false = true) by decide)] at H; exact H
  clear H
  have H := H1
  clear H1
  simp only [Option.some.injEq, Prod.mk.injEq] at H
  obtain ⟨rfl, rfl⟩ := H
  go_wp2
  go_ret2
  exact ⟨by first | rfl | (simp [*, ay_, az_] <;> rfl), bz HB.out⟩
 subst c7
 have H1 : ((ap_.f k l0 a1 a2 (⟨#[]⟩ : ByteArray)).bind fun bt102 => (if bt102.2 = true then (if 0 ≤ bt102.1 then (if bt102.1 < (l0.length : Int) then (some ((aa_ l0 bt102.1).f2, 0)) else (none)) else (none)) else (some ((⟨#[]⟩ : ByteArray), 3)))) = some (r1, r2) := by rw [if_pos rfl] at H; exact H
 clear H
 have H := H1
 clear H1
 replace H := Option.bind_eq_some_iff.mp H
 obtain ⟨⟨t102, t103⟩, A80, H⟩ := H
 (try dsimp only at H)
 have A8 := Aside0.mk A80
 clear A80
 have HC9 := Aside0.mk H
 clear H
 go_upto_if 22 with (first | ((with_reducible refine al_ (f := 49) rfl ?_); refine ba_ (some 18) rfl rfl Try.func49 (by kernel_rfl) rfl #[.slice A0 l0.length c0, .agg #[.string a1, .string a2, .string (⟨#[]⟩ : ByteArray)], .func (.func 47) #[] #[]] rfl (by first | rfl | (simp only [lma_, lmc_, lmn_]; first | done | rfl)) ?_; (with_reducible refine (ap_.calls k _ _ l0 a1 a2 (⟨#[]⟩ : ByteArray)  t102 t103 _ ?side1 ?side2 A8.out).mono ?_); (case side1 => exact cz (Kd.bJ_ HR0.out HB.out)); (case side2 => exact HC0.out); rintro e w10 ⟨rfl, hb⟩; refine ⟨_, rfl, ?_⟩; replace HB := Aside0.mk (ah_ (bz HB.out) hb); (try clear hb)))
 (try simp only [Act.put, lsa_, ls0_, ls1_])
 have H := HC9.out
 clear HC9
 by_cases c11 : t103 = true
 rotate_left
 ·replace c11 := Bool.eq_false_iff.mpr c11
  subst c11
  have H1 : (some ((⟨#[]⟩ : ByteArray), 3)) = some (r1, r2) := by rw [if_neg (show ¬ (false = true) by decide)] at H; exact H
  clear H
  have H := H1
  clear H1
  simp only [Option.some.injEq, Prod.mk.injEq] at H
  obtain ⟨rfl, rfl⟩ := H
  go_wp2
  go_ret2
  exact ⟨by first | rfl | (simp [*, ay_, az_] <;> rfl), bz HB.out⟩
 subst c11
 have H1 : (if 0 ≤ t102 then (if t102 < (l0.length : Int) then (some ((aa_ l0 t102).f2, 0)) else (none)) else (none)) = some (r1, r2) := by rw [if_pos rfl] at H; exact H
 clear H
 have H := H1
 clear H1
 by_cases c12 : 0 ≤ t102
 rotate_left
 ·rw [if_neg c12] at H
  exact absurd H (by simp)
 rw [if_pos c12] at H
 have c12b0 : decide (0 ≤ t102) = true := decide_eq_true c12
 clear c12
 (first | rw [c12b0] | (simp only [i64_w, i32_w]; rw [c12b0]) | (simp only [c12b1, Bool.not_true, Bool.not_false]) | (simp only [c12b0, Bool.not_true, Bool.not_false]) | skip)
 by_cases c13 : t102 < (l0.length : Int)
 rotate_left
 ·rw [if_neg c13] at H
  exact absurd H (by simp)
 rw [if_pos c13] at H
 have c13b0 : decide (t102 < (l0.length : Int)) = true := decide_eq_true c13
 clear c13
 simp only [Option.some.injEq, Prod.mk.injEq] at H
 obtain ⟨rfl, rfl⟩ := H
 have p104 : 0 ≤ (t102 : Int) := of_decide_eq_true (by assumption)
 have q104 : t102 < (l0.length : Int) := of_decide_eq_true (by assumption)
 obtain ⟨ad104, e104, hx104_0, hx104_1, hx104_2⟩ := bf_ HR0.out t102 p104 q104
 cases e104
 replace hx104_0 := bu_ HB.out hx104_0
 replace hx104_1 := bu_ HB.out hx104_1
 replace hx104_2 := bu_ HB.out hx104_2
 replace p104 := eq_true p104
 replace q104 := eq_true q104
 go_wp2
 go_ret2
 exact ⟨by first | rfl | (simp [*, ay_, az_] <;> rfl), bz HB.out⟩
def aF_.l0 : Nat → ByteArray → List ByteArray → List (S32) → Int → Int → Option (List ByteArray × Int)
 | 0, _, _, _, _, _ => none
 | k + 1, x1, x6, x13, x14, x15 => if x15 < x14 then (if 0 ≤ x15 then (if x15 < (x13.length : Int) then (if ((aa_ x13 x15).f0).toList = x1.toList then (if x6.length < 8796093022208 then (aF_.l0 k x1 (x6 ++ [(aa_ x13 x15).f1]) x13 x14 (wrap64 (x15 + 1))) else (none)) else (aF_.l0 k x1 x6 x13 x14 (wrap64 (x15 + 1)))) else (none)) else (none)) else (some (x6, 0))
def aF_.f (k : Nat) (l0 : List (S32)) (a1 : ByteArray) : Option (List ByteArray × Int) := (aj_.f k l0).bind fun t101 => (if t101 = true then (aF_.l0 k a1 (([] : List ByteArray)) l0 (l0.length : Int) 0) else (some (([] : List ByteArray), 1)))
set_option maxHeartbeats 8000000 in
set_option maxRecDepth 100000 in
theorem aF_.calls (k : Nat) (A0 : Option Addr) (c0 : Nat) (l0 : List (S32)) (a1 : ByteArray) (r1 : List ByteArray) (r2 : Int) (w : World) (hr0 : Kd.C k32 w A0 l0.length l0) (hc0 : l0.length ≤ c0) (h : aF_.f k l0 a1 = some (r1, r2)) :
  Calls Try.prog 26 #[.slice A0 l0.length c0, .string a1] w fun e w' => ∃ v0_ : Value, e = .returned (.tuple #[v0_, .int .i64 r2]) ∧ Kd.R Kd.string 9 w' w.heap.size (fun _ => True) v0_ r1 ∧ Below w.heap.size w w' := by
 have hu32 := Try.underlying32
 have HR0 := Aside0.mk hr0
 have HC0 := Aside0.mk hc0
 clear hr0 hc0
 have HB := Aside0.mk (Below.refl w.heap.size w)
 have H : ((aj_.f k l0).bind fun t101 => (if t101 = true then (aF_.l0 k a1 (([] : List ByteArray)) l0 (l0.length : Int) 0) else (some (([] : List ByteArray), 1)))) = some (r1, r2) := h
 clear h
 replace H := Option.bind_eq_some_iff.mp H
 obtain ⟨t101, A30, H⟩ := H
 (try dsimp only at H)
 have A3 := Aside0.mk A30
 clear A30
 have HC4 := Aside0.mk H
 clear H
 go_enter Try.func26, Try.ntmps26
 go_upto_if 11 with (first | ((with_reducible refine al_ (f := 22) rfl ?_); refine ba_ (some 10) rfl rfl Try.func22 (by kernel_rfl) rfl #[.slice A0 l0.length c0] rfl (by first | rfl | (simp only [lma_, lmc_, lmn_]; first | done | rfl)) ?_; (with_reducible refine (aj_.calls k _ _ l0 t101 _ ?side1 ?side2 A3.out).mono ?_); (case side1 => exact cz HR0.out); (case side2 => exact HC0.out); rintro e w5 ⟨rfl, hb⟩; refine ⟨_, rfl, ?_⟩; replace HB := Aside0.mk (ah_ (bz HB.out) hb); (try clear hb)))
 (try simp only [Act.put, lsa_, ls0_, ls1_])
 have H := HC4.out
 clear HC4
 by_cases c6 : t101 = true
 rotate_left
 ·replace c6 := Bool.eq_false_iff.mpr c6
  subst c6
  have H1 : (some (([] : List ByteArray), 1)) = some (r1, r2) := by rw [if_neg (show ¬ (false = true) by decide)] at H; exact H
  clear H
  have H := H1
  clear H1
  simp only [Option.some.injEq, Prod.mk.injEq] at H
  obtain ⟨rfl, rfl⟩ := H
  go_wp2
  go_ret2
  exact ⟨_, by first | rfl | (simp [*, ay_, az_] <;> rfl), by first | exact Kd.R_nil _ _ _ _ _ | exact Kd.N_nil _ _ _ _ _ | exact Kd.V_nil _ _ _ _ _ | exact Kd.Q_nil _ _ _ _ _ | exact Kd.S_nil _ _ _ _ _, bz HB.out⟩
 subst c6
 have H1 : (aF_.l0 k a1 (([] : List ByteArray)) l0 (l0.length : Int) 0) = some (r1, r2) := by rw [if_pos rfl] at H; exact H
 clear H
 have H := H1
 clear H1
 obtain ⟨y102, hy102⟩ : ∃ y_ : List ByteArray, y_ = (([] : List ByteArray)) := ⟨_, rfl⟩
 replace H : (aF_.l0 k a1 y102 l0 (l0.length : Int) 0) = some (r1, r2) := by first | (rw [hy102]; with_reducible exact H) | (have H2_ := (Option.bind_some _ _).symm.trans H; rw [hy102]; with_reducible exact H2_) | (have H2_ := (Option.bind_some _ _).symm.trans H; with_reducible exact H2_) | with_reducible exact H | (rw [hy102]; exact H) | exact H
 have Ny102 := Aside0.mk hy102
 clear hy102
 have H' := Aside0.mk H
 clear H
 go_wp2_with (first | ((with_reducible refine aO_ (N := 12) rfl ?_); refine Kd.R_lit Kd.string _ 9 ?hg (N := 12) ?hd (xs := ([] : List ByteArray)) (inner := []) (ok := fun _ => True) (okp := fun _ => True) ?hr ?hp (fun _ hk => hk) trivial (Below.refl _ _) (Nat.le_refl _) (by simp) ?_; (case hd => rfl); (case hg => rfl); (case hr => (go_simp; try rfl)); (case hp => exact (Reps.none _ _)); intro v103 w7 ho8 hb hg_ hnew_; clear hg_ hnew_; (first | rw [← Ny102.out] at ho8 | (simp only [Int.reduceToNat] at ho8; rw [← Ny102.out] at ho8)); have HO104 := Aside0.mk (Kd.bp_ ho8 (am_ (bz HB.out))); replace HB := Aside0.mk (ah_ (bz HB.out) hb); clear hb ho8))
 (try simp only [Act.put, lsa_, ls0_, ls1_])
 go_loopg [6, 15] k (fun kq v6 v15 w' => ∃ (x6_1 : List ByteArray) (x15_1 : Int), v15 = .int .i64 x15_1 ∧ Aside0 (aF_.l0 kq a1 x6_1 l0 (l0.length : Int) x15_1 = some (r1, r2)) ∧ Aside0 (kq ≤ k) ∧ Aside0 (Kd.R Kd.string 9 w' w.heap.size (fun _ => True) v6 x6_1) ∧ Aside0 (Below w.heap.size w w'))
 case atStart => exact ⟨(y102), (0), (by first | rfl | (simp; done) | (simp [*]; done)), H', ⟨Nat.le_refl _⟩, ⟨rz HO104.out⟩, ⟨bz HB.out⟩⟩
 case round =>
  clear H'
  obtain ⟨x6_1, x15_1, rfl, HA, HK1, HO_6, HB⟩ := hrel
  cases gk with
  | zero => exact absurd HA.out (by simp [aF_.l0])
  | succ k1 =>
   have H := HA.out
   clear HA
   simp only [aF_.l0] at H
   by_cases c9 : x15_1 < (l0.length : Int)
   rotate_left
   ·rw [if_neg c9] at H
    have c9b0 : decide (x15_1 < (l0.length : Int)) = false := decide_eq_false c9
    clear c9
    (first | rw [c9b0] | (simp only [i64_w, i32_w]; rw [c9b0]) | (simp only [c9b1, Bool.not_true, Bool.not_false]) | (simp only [c9b0, Bool.not_true, Bool.not_false]) | skip)
    simp only [Option.some.injEq, Prod.mk.injEq] at H
    obtain ⟨rfl, rfl⟩ := H
    go_wp2
    go_ret2
    exact ⟨_, by first | rfl | (simp [*, ay_, az_] <;> rfl), rz HO_6.out, bz HB.out⟩
   rw [if_pos c9] at H
   have c9b0 : decide (x15_1 < (l0.length : Int)) = true := decide_eq_true c9
   clear c9
   (first | rw [c9b0] | (simp only [i64_w, i32_w]; rw [c9b0]) | (simp only [c9b1, Bool.not_true, Bool.not_false]) | (simp only [c9b0, Bool.not_true, Bool.not_false]) | skip)
   by_cases c10 : 0 ≤ x15_1
   rotate_left
   ·rw [if_neg c10] at H
    exact absurd H (by simp)
   rw [if_pos c10] at H
   have c10b0 : decide (0 ≤ x15_1) = true := decide_eq_true c10
   clear c10
   by_cases c11 : x15_1 < (l0.length : Int)
   rotate_left
   ·rw [if_neg c11] at H
    exact absurd H (by simp)
   rw [if_pos c11] at H
   have c11b0 : decide (x15_1 < (l0.length : Int)) = true := decide_eq_true c11
   clear c11
   have HC12 := Aside0.mk H
   clear H
   have p105 : 0 ≤ (x15_1 : Int) := of_decide_eq_true (by assumption)
   have q105 : x15_1 < (l0.length : Int) := of_decide_eq_true (by assumption)
   obtain ⟨ad105, e105, hx105_0, hx105_1, hx105_2⟩ := bf_ HR0.out x15_1 p105 q105
   cases e105
   replace hx105_0 := bu_ HB.out hx105_0
   replace hx105_1 := bu_ HB.out hx105_1
   replace hx105_2 := bu_ HB.out hx105_2
   replace p105 := eq_true p105
   replace q105 := eq_true q105
   go_upto_if 22 with (first | ((with_reducible refine aO_ (N := 8) rfl ?_); refine bB_ ?hg (N := 8) ?hd (cs := #[.string (⟨#[]⟩ : ByteArray), .string (⟨#[]⟩ : ByteArray), .string (⟨#[]⟩ : ByteArray)]) (t := 32) ?hr ?_; (case hd => rfl); (case hg => rfl); (case hr => (go_simp; try rfl)); intro gb106 hg w13 hbox hb; replace HO_6 := Aside0.mk (Kd.bQ_ (rz HO_6.out) hb); have BK106 := Aside0.mk (hbox); have GW106 := Aside0.mk ((by rw [hg]; exact (am_ (bz HB.out)) : w.heap.size ≤ gb106)); have GE106 := GW106; replace HB := Aside0.mk (ah_ (bz HB.out) hb); clear hb hbox hg; obtain ⟨hcz14_0, hcz14_1, hcz14_2⟩ := cz3_ BK106.out; obtain ⟨hfz14_0, hfz14_1, hfz14_2⟩ := fz3_ BK106.out))
   (try simp only [Act.put, lsa_, ls0_, ls1_])
   have H := HC12.out
   clear HC12
   by_cases c15 : ((aa_ l0 x15_1).f0).toList = a1.toList
   rotate_left
   ·rw [if_neg c15] at H
    have c15b0 : (((aa_ l0 x15_1).f0).toList == a1.toList) = false := beq_eq_false_iff_ne.mpr c15
    have c15b1 : (((aa_ l0 x15_1).f0).toList != a1.toList) = true := bne_iff_ne.mpr c15
    (first | rw [c15b0] | (simp only [i64_w, i32_w]; rw [c15b0]) | (simp only [c15b1, Bool.not_true, Bool.not_false]) | (simp only [c15b0, Bool.not_true, Bool.not_false]) | skip)
    have H' := Aside0.mk H
    clear H
    go_wp2
    go_roundg k1
    case measure => have := HK1.out; omega
    case rel => exact ⟨(x6_1), (wrap64 (x15_1 + 1)), (by first | rfl | (simp; done) | (simp [*]; done)), H', ⟨by have := HK1.out; omega⟩, ⟨rz (Kd.aD_ (Kd.R_far (p := ⟨gb106, 2, none⟩) (Kd.R_far (p := ⟨gb106, 1, none⟩) (Kd.R_far (p := ⟨gb106, 0, none⟩) (Kd.ck_ HO_6.out BK106.out (by decide)) (fun _ hk => hk.2) (.string ((aa_ l0 x15_1).f0))) (fun _ hk => hk.2) (.string ((aa_ l0 x15_1).f1))) (fun _ hk => hk.2) (.string ((aa_ l0 x15_1).f2))) (fun _ hk => trivial))⟩, ⟨bq⟩⟩
   rw [if_pos c15] at H
   have c15b0 : (((aa_ l0 x15_1).f0).toList == a1.toList) = true := beq_iff_eq.mpr c15
   have c15b1 : (((aa_ l0 x15_1).f0).toList != a1.toList) = false := bne_eq_false_iff_eq.mpr c15
   clear c15
   (first | rw [c15b0] | (simp only [i64_w, i32_w]; rw [c15b0]) | (simp only [c15b1, Bool.not_true, Bool.not_false]) | (simp only [c15b0, Bool.not_true, Bool.not_false]) | skip)
   by_cases c16 : x6_1.length < 8796093022208
   rotate_left
   ·rw [if_neg c16] at H
    exact absurd H (by simp)
   rw [if_pos c16] at H
   have LMc16 := Aside0.mk c16
   clear c16
   obtain ⟨y107, hy107⟩ : ∃ y_ : List ByteArray, y_ = (x6_1 ++ [(aa_ l0 x15_1).f1]) := ⟨_, rfl⟩
   replace H : (aF_.l0 k1 a1 y107 l0 (l0.length : Int) (wrap64 (x15_1 + 1))) = some (r1, r2) := by first | (rw [hy107]; with_reducible exact H) | (have H2_ := (Option.bind_some _ _).symm.trans H; rw [hy107]; with_reducible exact H2_) | (have H2_ := (Option.bind_some _ _).symm.trans H; with_reducible exact H2_) | with_reducible exact H | (rw [hy107]; exact H) | exact H
   have Ny107 := Aside0.mk hy107
   clear hy107
   have H' := Aside0.mk H
   clear H
   obtain ⟨hcz17_0, hcz17_1, hcz17_2⟩ := cz3_ BK106.out
   obtain ⟨hfz17_0, hfz17_1, hfz17_2⟩ := fz3_ BK106.out
   go_wp2_with (first | ((with_reducible refine aP_ (b := .append) (xs := #[.tmp 23, .tmp 26]) rfl ?_); at_builtin; refine Kd.bM_ Kd.string (w0 := w) w.heap.size rfl (.tmp 23) (.tmp 26) 40 9 (.string ⟨#[]⟩) 16 rfl Try.underlying40 info9 rfl (by decide) (by omega) u6 x6_1 ((aa_ l0 x15_1).f1) [.string ((aa_ l0 x15_1).f1)] (fun _ => True) (fun _ => False) rfl (by first | (go_simp; done) | (go_simp; rfl)) ?aP (fun _ hk => hk.elim) ?aF ?aO ?aB ?aS ?aL ?_; (case aP => exact rfl); (case aB => exact (bq)); (case aF => exact (fun _ _ => trivial)); (case aO => exact (rz (Kd.aD_ (Kd.R_far (p := ⟨gb106, 2, none⟩) (Kd.R_far (p := ⟨gb106, 1, none⟩) (Kd.R_far (p := ⟨gb106, 0, none⟩) (Kd.ck_ HO_6.out BK106.out (by decide)) (fun _ hk => hk.2) (.string ((aa_ l0 x15_1).f0))) (fun _ hk => hk.2) (.string ((aa_ l0 x15_1).f1))) (fun _ hk => hk.2) (.string ((aa_ l0 x15_1).f2))) (fun _ hk => trivial)))); (case aS => exact (am_ (bq))); (case aL => have := LMc16.out; omega); intro v108 w18 ho hb hg hat; rw [← Ny107.out] at ho; replace BK106 := Aside0.mk (bF_ (g := gb106) (o := .cells #[.string ((aa_ l0 x15_1).f0), .string ((aa_ l0 x15_1).f1), .string ((aa_ l0 x15_1).f2)] 32 (0, 0)) (by exact kj3_2 (kj3_1 (kj3_0 (kz BK106.out)))) hg (Kd.R_ne HO_6.out BK106.out (by decide))); replace HB := Aside0.mk (hb); have HO109 := Aside0.mk (ho); clear HO_6; clear ho hb hg hat))
   go_roundg k1
   case measure => have := HK1.out; omega
   case rel => exact ⟨(y107), (wrap64 (x15_1 + 1)), (by first | rfl | (simp; done) | (simp [*]; done)), H', ⟨by have := HK1.out; omega⟩, ⟨rz HO109.out⟩, ⟨bq⟩⟩
end Go.Proofs.Ytckboiphlhhckaa.Q
namespace Go.Proofs.Ytckboiphlhhckaa.SLX
open Go.RowKit Go.Proofs.YtckboiphlhhckaaW.PrintWords Go.Proofs.YtckboiphlhhckaaW.PrintLast Go.Proofs.YtckboiphlhhckaaW.PrintMore
section
variable {P : Program} {α : Type}
def Flat (d : Kd α) : Prop := (∀ (W W' : World) (b b' : Nat) (ok ok' : Nat → Prop) x cs, d.M W b ok x cs → d.M W' b' ok' x cs) ∧ (∀ (W : World) (b : Nat) (ok : Nat → Prop) x cs, d.K W x cs → d.M W b ok x cs)
theorem R_open {d : Kd α} {e : Nat} {W : World} {base : Nat} {ok : Nat → Prop} {v : Value} {xs : List α} (h : d.R e W base ok v xs) :
  (v = .slice none 0 0 ∧ xs = []) ∨ ∃ g c cur okk, v = .slice (some ⟨g, 0, none⟩) xs.length c ∧ ok g ∧ base ≤ g ∧ W.heap[g]? = some (.cells cur e (0, 0)) ∧ xs.length ≤ c ∧ c ≤ maxLen ∧ cur.size = c * d.sz ∧ Reps (d.M W base okk) d.sz xs (cur.toList.take (xs.length * d.sz)) := by
 obtain ⟨hok, inner, hown, hr⟩ := h
 rcases hown.2 with ⟨hv, h0⟩ | ⟨g, cap, cur, rfl, hb, hh, h1, h2, h3, h4⟩
 ·exact .inl ⟨hv, List.eq_nil_of_length_eq_zero h0⟩
 ·exact .inr ⟨g, cap, cur, _, rfl, hok g (by simp [Value.ownBlock]), hb, hh, h1, h2, h3, by rw [h4]; exact hr⟩
theorem R_shut {d : Kd α} {e : Nat} {W : World} {base g c n : Nat} {ok : Nat → Prop} {xs : List α} {cur : Array Value} (hok : ok g) (hb : base ≤ g) (hh : W.heap[g]? = some (.cells cur e (0, 0))) (hn : n = xs.length) (h1 : n ≤ c) (h2 : c ≤ maxLen) (h3 : cur.size = c * d.sz)
  (hr : Reps (d.M W base (fun k => ok k ∧ some k ≠ (Value.slice (some ⟨g, 0, none⟩) n c).ownBlock)) d.sz xs (cur.toList.take (n * d.sz))) : d.R e W base ok (.slice (some ⟨g, 0, none⟩) n c) xs := by
 subst hn
 refine ⟨fun k hk => ?_, cur.toList.take (xs.length * d.sz), ⟨hr.1, .inr ⟨g, c, cur, rfl, hb, hh, h1, h2, h3, rfl⟩⟩, hr⟩
 have : g = k := by simpa [Value.ownBlock] using hk
 subst this
 exact hok
theorem reps_imp {R R' : α → List Value → Prop} {size : Nat} {xs : List α} {cs : List Value} (h : Reps R size xs cs) (hi : ∀ x c, R x c → R' x c) : Reps R' size xs cs := ⟨h.1, fun j p hj => hi _ _ (h.2 j p hj)⟩
theorem run_copy_k (w : World) (dT sT ty elem : TypeId) (sz g o dLen dCap : Nat) (a : Addr) (sLen sCap : Nat) (cur : Array Value) (t : TypeId) (cs : List Value)
  (hu : P.underlying dT = some (.slice elem)) (hs : (P.info? elem).map (·.size) = some sz)
  (hg : w.heap[g]? = some (.cells cur t (0, 0))) (hn : cs.length = Nat.min sLen dLen * sz)
  (hsrc : ∀ j v, cs[j]? = some v → w.cell? (a.add j) = some v) (hfit : o + cs.length ≤ cur.size) (h1 : ∀ v ∈ cs, v.oneCell' = true) :
  (Builtin.copy_ #[dT, sT] ty #[.slice (some ⟨g, o, none⟩) dLen dCap, .slice (some a) sLen sCap]).run P w =
   .ok (goInt (Nat.min sLen dLen)) (w.setRow g (cur.toList.take o ++ cs ++ cur.toList.drop (o + cs.length)).toArray) := by
 have hl := run_loadCells_list (P := P) w a cs hsrc
 have hst := run_storeCells_at P g o t cs 0 cur w hg (by simpa using hfit) h1
 cases hq : P.info? elem with
 | none => simp [hq] at hs
 | some i =>
  have hi : i.size = sz := by simpa [hq] using hs
  simp [Builtin.copy_, run_underlying hu, Builtin.lenOf, Builtin.firstCells, sizeOf, typeInfo, hq, hi, ← hn, hl, hst]
theorem zeroCells_size (z : Array Value) (n : Nat) : (Builtin.zeroCells z n).size = n * z.size := by simp [Builtin.zeroCells]
theorem zeroCells_one (z : Array Value) : (Builtin.zeroCells z 1).toList = z.toList := by
 unfold Builtin.zeroCells
 apply List.ext_getElem
 ·simp
 ·intro i h1 h2
  simp at h1 h2
  simp [Nat.mod_eq_of_lt h2, h2]
theorem run_clear_k (w : World) (t e ty : TypeId) (z : Value) (ht : P.underlying t = some (.slice e)) (hv : ∀ w, (zeroValue e).run P w = .ok z w) (h1 : ∀ v ∈ z.cells.toList, v.oneCell' = true) (g o c : Nat) (cur : Array Value) (hg : w.heap[g]? = some (.cells cur e (0, 0))) (hfit : o + z.cells.size ≤ cur.size) :
  (Builtin.clear_ #[t] ty #[.slice (some ⟨g, o, none⟩) 1 c]).run P w = .ok (.tuple #[]) (w.setRow g (cur.toList.take o ++ z.cells.toList ++ cur.toList.drop (o + z.cells.size)).toArray) := by
 have hst := run_storeCells_at P g o e z.cells.toList 0 cur w hg (by simpa using hfit) h1
 simp only [Nat.add_zero, Array.length_toList] at hst
 simp [Builtin.clear_, run_underlying ht, hv, zeroCells_one, hst]
theorem cO_ (W : World) (g : Nat) (cs : Array Value) : W.grownBy (W.setRow g cs) (some g) :=
 ⟨rfl, rfl, rfl, by simp [World.setRow], fun k _ hk => setRow_other W g k cs (fun he => hk (by rw [he]))⟩
theorem kept_of_grown {w w' : World} {g : Nat} {S : Nat → Prop} (h : w.grownBy w' (some g)) (hg : S g) : Kept w w' S :=
 ⟨h.size, fun i hi hn => h.block i hi (fun he => hn (by injection he with he; rw [he]; exact hg))⟩
end
section
variable {P : Program} {ops : Array Oper} {o : Oper} {a : Act} {w : World} {K : Act → World → Prop} {Q : Exit → Act → World → Prop}
theorem cP_ {E : Prop} (hg : o.guard = none) (s x : Operand) (t : TypeId) (hop : o.op = Op.call { callee := Callee.builtin Builtin.append, args := #[s, x], argTypes := #[t, t] })
  (v u : Value) (hs : a.eval s = v) (hx : a.eval x = u) {v' : Value} {w' : World} (hr : (Builtin.append_ #[t, t] o.type #[v, u]).run P w = .ok v' w') (hK : K (a.put o.dst v') w') :
  if Region.wanted o (yielded ops a.tmps) = true then Oper.wp P o a w K Q else E := by
 have hw : Region.wanted o (yielded ops a.tmps) = true := by simp [Region.wanted, hg]
 rw [if_pos hw]
 unfold Oper.wp
 simp [execOp, hop, resolve, invoke, builtin, hs, hx, hr, Result.andThen]
 exact hK
theorem step_copy_runS {E : Prop} (hg : o.guard = none) (d x : Operand) (dT sT : TypeId) (hop : o.op = Op.call { callee := Callee.builtin Builtin.copy, args := #[d, x], argTypes := #[dT, sT] })
  (v u : Value) (hd : a.eval d = v) (hx : a.eval x = u) {v' : Value} {w' : World} (hr : (Builtin.copy_ #[dT, sT] o.type #[v, u]).run P w = .ok v' w') (hK : K (a.put o.dst v') w') :
  if Region.wanted o (yielded ops a.tmps) = true then Oper.wp P o a w K Q else E := by
 have hw : Region.wanted o (yielded ops a.tmps) = true := by simp [Region.wanted, hg]
 rw [if_pos hw]
 unfold Oper.wp
 simp [execOp, hop, resolve, invoke, builtin, hd, hx, hr, Result.andThen]
 exact hK
theorem list_copy_runS {rest : List Oper} (hg : o.guard = none) (d x : Operand) (dT sT : TypeId) (hop : o.op = Op.call { callee := Callee.builtin Builtin.copy, args := #[d, x], argTypes := #[dT, sT] })
  (v u : Value) (hd : a.eval d = v) (hx : a.eval x = u) {v' : Value} {w' : World} (hr : (Builtin.copy_ #[dT, sT] o.type #[v, u]).run P w = .ok v' w') (h : wpList P ops Q rest (a.put o.dst v') w') : wpList P ops Q (o :: rest) a w :=
 wpList_plain hg fun _ hK => by
  unfold Oper.wp execOp
  simp only [hop, resolve, invoke, builtin, Sem.run_bind, Sem.run_pure, Result.andThen_ok, List.map_toArray, List.map_cons, List.map_nil, hd, hx, hr]
  exact hK _ _ h
theorem list_append_runS {rest : List Oper} (hg : o.guard = none) (d x : Operand) (dT sT : TypeId) (hop : o.op = Op.call { callee := Callee.builtin Builtin.append, args := #[d, x], argTypes := #[dT, sT] })
  (v u : Value) (hd : a.eval d = v) (hx : a.eval x = u) {v' : Value} {w' : World} (hr : (Builtin.append_ #[dT, sT] o.type #[v, u]).run P w = .ok v' w') (h : wpList P ops Q rest (a.put o.dst v') w') : wpList P ops Q (o :: rest) a w :=
 wpList_plain hg fun _ hK => by
  unfold Oper.wp execOp
  simp only [hop, resolve, invoke, builtin, Sem.run_bind, Sem.run_pure, Result.andThen_ok, List.map_toArray, List.map_cons, List.map_nil, hd, hx, hr]
  exact hK _ _ h
end
theorem R_spare {α : Type} {d : Kd α} (hF : Flat d) {e : Nat} {W : World} {base g n c : Nat} {ok : Nat → Prop} {xs : List α} {cur : Array Value} (HO : d.R e W base ok (.slice (some ⟨g, 0, none⟩) n c) xs) (hh : W.heap[g]? = some (.cells cur e (0, 0)))
  (z : List Value) (o : Nat) (ho : n * d.sz ≤ o) (hfit : o + z.length ≤ cur.size) : d.R e (W.setRow g (cur.toList.take o ++ z ++ cur.toList.drop (o + z.length)).toArray) base ok (.slice (some ⟨g, 0, none⟩) n c) xs := by
 rcases R_open HO with ⟨hx, _⟩ | ⟨g', c', cur', okk, hx, h0, h1, h2, h3, h4, h5, h6⟩
 ·cases hx
 injection hx with hx1 hx2 hx3
 injection hx1 with hx1
 injection hx1 with hx1
 subst hx1; subst hx2; subst hx3
 obtain rfl : cur' = cur := by
  rw [hh] at h2
  injection h2 with h2
  injection h2 with h2
  exact h2.symm
 refine R_shut h0 h1 (setRow_heap W _ cur' _ e (0, 0) hh) rfl h3 h4 ?_ ?_
 ·rw [← h5]; simp; omega
 ·have : (cur'.toList.take o ++ z ++ cur'.toList.drop (o + z.length)).toArray.toList.take (xs.length * d.sz) = cur'.toList.take (xs.length * d.sz) := by
   simp only [List.toList_toArray]
   rw [List.append_assoc, List.take_append_of_le_length (by simp; omega), List.take_take, Nat.min_eq_left ho]
  rw [this]
  exact reps_imp h6 (fun x cs h => hF.1 _ _ _ _ _ _ _ _ h)
theorem ins_list {β : Type} (L cx D : List β) (p : Nat) (hl : p + cx.length + D.length ≤ L.length) :
  ((L.take p ++ cx ++ L.drop (p + cx.length)).take (p + cx.length) ++ D ++ (L.take p ++ cx ++ L.drop (p + cx.length)).drop (p + cx.length + D.length)).take (p + cx.length + D.length) = L.take p ++ cx ++ D ∧
  ((L.take p ++ cx ++ L.drop (p + cx.length)).take (p + cx.length) ++ D ++ (L.take p ++ cx ++ L.drop (p + cx.length)).drop (p + cx.length + D.length)).length = L.length := by
 have h1 : (L.take p ++ cx).length = p + cx.length := by simp; omega
 have h2 : (L.take p ++ cx ++ L.drop (p + cx.length)).take (p + cx.length) = L.take p ++ cx := List.take_left' h1
 rw [h2]
 constructor
 ·exact List.take_left' (by simp; omega)
 ·simp; omega
theorem shift_list {β : Type} (L cx D : List β) (p : Nat) (hl : p + cx.length + D.length ≤ L.length) :
  ((L.take (p + cx.length) ++ D ++ L.drop (p + cx.length + D.length)).take p ++ cx ++ (L.take (p + cx.length) ++ D ++ L.drop (p + cx.length + D.length)).drop (p + cx.length)).take (p + cx.length + D.length) = L.take p ++ cx ++ D ∧
  ((L.take (p + cx.length) ++ D ++ L.drop (p + cx.length + D.length)).take p ++ cx ++ (L.take (p + cx.length) ++ D ++ L.drop (p + cx.length + D.length)).drop (p + cx.length)).length = L.length := by
 have h1 : (L.take (p + cx.length)).length = p + cx.length := by simp; omega
 have h2 : (L.take (p + cx.length) ++ D ++ L.drop (p + cx.length + D.length)).drop (p + cx.length) = D ++ L.drop (p + cx.length + D.length) := by
  rw [List.append_assoc]; exact List.drop_left' h1
 have h3 : (L.take (p + cx.length) ++ D ++ L.drop (p + cx.length + D.length)).take p = L.take p := by
  rw [List.append_assoc, List.take_append_of_le_length (by omega), List.take_take, Nat.min_eq_left (by omega)]
 rw [h2, h3]
 constructor
 ·rw [← List.append_assoc]; exact List.take_left' (by simp; omega)
 ·simp; omega
theorem kept_of_grown' {w w' : World} {row : Option Nat} {S : Nat → Prop} (h : w.grownBy w' row) (hg : ∀ k, row = some k → S k) : Kept w w' S :=
 ⟨h.size, fun i hi hn => h.block i hi (fun he => hn (hg i he.symm))⟩
end Go.Proofs.Ytckboiphlhhckaa.SLX
namespace Go.Proofs.Ytckboiphlhhckaa.Q
open Go.RowKit Go.Proofs.YtckboiphlhhckaaW.PrintWords Go.Proofs.YtckboiphlhhckaaW.PrintLast Go.Proofs.YtckboiphlhhckaaW.PrintMore
attribute [local go_sem] aU_ aV_ bj_ bi_ aH_ aJ_ aS_ aT_
def cb_.f (l0 : List S32) (a1 : Int) (a2 : Int) : Option (List S32) := if 0 ≤ a1 ∧ a1 < (l0.length : Int) ∧ a2 = a1 + 1 then some (l0.eraseIdx a1.toNat) else none
set_option maxHeartbeats 1000000 in
set_option maxRecDepth 100000 in
theorem cb_.calls (P0_ : Nat → Prop) (u9000_ : Value) (l0 : List S32) (a1 : Int) (a2 : Int) (r : List S32) (w0 w : World) (hB : Below w0.heap.size w0 w) (ho0 : Kd.R k32 32 w w0.heap.size P0_ u9000_ l0) (h : cb_.f l0 a1 a2 = some r) :
  Calls Try.prog 51 #[u9000_, .int .i64 a1, .int .i64 a2] w fun e w' => ∃ v0_ : Value, e = .returned (v0_) ∧ Kd.R k32 32 w' w0.heap.size (fun k_ => (P0_ k_ ∨ w.heap.size ≤ k_)) v0_ r ∧ Below w0.heap.size w0 w' ∧ Kept w w' (fun k_ => P0_ k_) := by
 unfold cb_.f at h
 split at h
 case isFalse => cases h
 rename_i hc
 obtain ⟨h0, h1, rfl⟩ := hc
 obtain rfl := Option.some.inj h
 obtain ⟨i, rfl⟩ := Int.eq_ofNat_of_zero_le h0
 rcases SLX.R_open ho0 with ⟨_, rfl⟩ | ⟨g, c, cur, okk, rfl, hok, hbg, hh, hnc, hcm, hcs, hrep⟩
 ·simp at h1; omega
 have hsz : maxLen = 9223372036854775807 := by decide
 have hi : i < l0.length := by omega
 obtain ⟨n, hn⟩ : ∃ n, n = l0.length := ⟨_, rfl⟩
 obtain ⟨i0, hi0, hz0, hzs, _⟩ := info_parts cf_
 have hA1 : (if c = i + 1 then some (⟨g, 0, none⟩ : Addr) else some ⟨g, (i + 1) * 3, none⟩) = (if c = i + 1 then some (⟨g, 0, none⟩ : Addr) else (some (⟨g, 0, none⟩ : Addr)).map (·.add ((i + 1) * 3))) := by
  split
  ·rfl
  ·rw [Option.map_some, add_plain]
 have hgl : g < w.heap.size := (Array.getElem?_eq_some_iff.1 hh).1
 have HO : Kd.R k32 32 w.drew w0.heap.size P0_ (.slice (some ⟨g, 0, none⟩) n c) l0 := by rw [hn]; exact Kd.R_drew ho0
 obtain ⟨w1, hr1, HO1, hg1⟩ := Kd.R_delete_run (P := Try.prog) k32 w0.heap.size 25 25 32 i0 Try.underlying25 hi0 hzs HO (k := i) (by omega) rfl (c - (i + 1))
 replace hr1 : (Builtin.append_ #[25, 25] 25 #[.slice (some ⟨g, 0, none⟩) i c, .slice (if c = i + 1 then some (⟨g, 0, none⟩ : Addr) else (some (⟨g, 0, none⟩ : Addr)).map (·.add ((i + 1) * 3))) (n - (i + 1)) (c - (i + 1))]).run Try.prog w.drew = .ok (.slice (some ⟨g, 0, none⟩) (n - 1) c) w1 := hr1
 have hr1' : (Builtin.append_ #[25, 25] 25 #[.slice (some ⟨g, 0, none⟩) i c, .slice (if c = i + 1 then some (⟨g, 0, none⟩ : Addr) else some ⟨g, (i + 1) * 3, none⟩) (n - (i + 1)) (c - (i + 1))]).run Try.prog w.drew = .ok (.slice (some ⟨g, 0, none⟩) (n - 1) c) w1 := by rw [hA1]; exact hr1
 have hl1 : (l0.eraseIdx i).length = n - 1 := by rw [List.length_eraseIdx_of_lt hi, hn]
 rcases SLX.R_open HO1 with ⟨hx, _⟩ | ⟨g', c', cur1, okk1, hx, _, _, hh1, hnc1, _, hcs1, hrep1⟩
 ·cases hx
 injection hx with hx1 hx2 hx3
 injection hx1 with hx1
 injection hx1 with hx1
 subst hx1; subst hx3
 have hq : (n - 1) * 3 + 3 ≤ cur1.size := by
  rw [hcs1]
  have : (n - 1 + 1) * 3 ≤ c * 3 := Nat.mul_le_mul_right _ (by omega)
  rw [Nat.add_mul, Nat.one_mul] at this
  exact this
 have hr2 := SLX.run_clear_k (P := Try.prog) w1 25 32 0 (.agg #[(.string ⟨#[]⟩), (.string ⟨#[]⟩), (.string ⟨#[]⟩)]) Try.underlying25 Try.zeroValue32 (fun v hv => (List.all_eq_true.mp (show (Value.cells (.agg #[(.string ⟨#[]⟩), (.string ⟨#[]⟩), (.string ⟨#[]⟩)])).toList.all Value.oneCell' = true by kernel_rfl)) v hv) g ((n - 1) * 3) (c - (n - 1)) cur1 hh1 hq
 obtain ⟨w2, hw2⟩ : ∃ w2, w2 = w1.setRow g (cur1.toList.take ((n - 1) * 3) ++ (Value.cells (.agg #[(.string ⟨#[]⟩), (.string ⟨#[]⟩), (.string ⟨#[]⟩)])).toList ++ cur1.toList.drop ((n - 1) * 3 + (Value.cells (.agg #[(.string ⟨#[]⟩), (.string ⟨#[]⟩), (.string ⟨#[]⟩)])).size)).toArray := ⟨_, rfl⟩
 rw [← hw2] at hr2
 rw [← hn]
 have hF : SLX.Flat k32 := ⟨fun _ _ _ _ _ _ _ _ h => h, fun _ _ _ _ _ h => h⟩
 have HR := SLX.R_spare hF HO1 hh1 (Value.cells (.agg #[(.string ⟨#[]⟩), (.string ⟨#[]⟩), (.string ⟨#[]⟩)])).toList ((n - 1) * 3) (Nat.le_refl _) (by rw [Array.length_toList]; exact hq)
 rw [Array.length_toList, ← hw2] at HR
 have HG : w.grownBy w2 (some g) := World.grownBy.trans (World.grownBy.trans (cv_ (cE_ (Below.refl _ _)) _) hg1) (hw2 ▸ SLX.cO_ w1 g _)
 have HB := Aside0.mk (hB.grown HG hB.size (fun k hk => by injection hk with hk; subst hk; exact hbg))
 have HK := Aside0.mk (SLX.kept_of_grown (S := fun k_ => P0_ k_) HG hok)
 have HR2 := Aside0.mk (Kd.aD_ (ok' := fun k_ => (P0_ k_ ∨ w.heap.size ≤ k_)) HR (fun k hk => .inl hk))
 simp [Value.cells] at hw2
 rw [hw2] at HB HK HR2
 clear HR HG
 have b1 : i ≤ c := by omega
 have b2 : i < n := by omega
 have b3 : n ≤ c := by omega
 have b4 : n - 1 ≤ n := by omega
 have b5 : ¬ c = n - 1 := by omega
 have b6 : n - (n - 1) = 1 := by omega
 have b7 : (0 : Int) ≤ (i : Int) + 1 := by omega
 have b8 : (i : Int) + 1 ≤ (n : Int) := by omega
 have HN := Aside0.mk hn
 clear hn hi hnc
 clear HO1 hB h1 h hx2 hrep1 hcs1 hnc1 hrep hcs HO ho0
 go_enter Try.func51, Try.ntmps51
 go_wp2
 go_region_law (first | refine SLX.cP_ rfl (.tmp 22) (.tmp 25) 25 rfl (.slice (some ⟨g, 0, none⟩) i c) (.slice (if c = i + 1 then some (⟨g, 0, none⟩ : Addr) else (some (⟨g, 0, none⟩ : Addr)).map (·.add ((i + 1) * 3))) (n - (i + 1)) (c - (i + 1))) (by simp [Act.eval, Act.put]) (by simp [Act.eval, Act.put]) hr1 ?_ | refine SLX.cP_ rfl (.tmp 22) (.tmp 25) 25 rfl _ _ rfl rfl hr1 ?_ | refine SLX.cP_ rfl (.tmp 22) (.tmp 25) 25 rfl _ _ rfl rfl hr1' ?_)
 go_wp2
 all_goals
  go_ret
  try subst_vars
  exact ⟨_, rfl, HR2.out, HB.out, HK.out⟩
def br_.f (l0 : List S32) : Option (List S32) := if l0.length < 2932031007402 then some l0 else none
set_option maxHeartbeats 8000000 in
set_option maxRecDepth 100000 in
theorem br_.calls (A0 : Option Addr) (c0 : Nat) (l0 : List S32) (r : List S32) (w : World) (hr0 : Kd.C k32 w A0 l0.length l0) (hc0 : l0.length ≤ c0) (h : br_.f l0 = some r) :
  Calls Try.prog 52 #[.slice A0 l0.length c0] w fun e w' => ∃ v0_ : Value, e = .returned (v0_) ∧ Kd.R k32 32 w' w.heap.size (fun _ => True) v0_ r ∧ Below w.heap.size w w' := by
 have q22 : ∀ (w : World) (a : Option Addr) (n c n' c' : Nat), (binOp .eql 25 (.slice a n c) (.slice none n' c')).run Try.prog w = .ok (.bool a.isNone) w := fun w a n c n' c' => Lib.run_eql_slice_nil w _ _ a n c n' c' Try.underlying25
 unfold br_.f at h
 split at h
 ·rename_i hl
  obtain rfl := Option.some.inj h
  have hl' := Aside0.mk hl
  clear hl h
  rcases A0 with _ | ⟨ab, ao, asp⟩
  ·have h0 : l0 = [] := by
    rcases l0 with _ | ⟨x, l⟩
    ·rfl
    ·obtain ⟨ad, h, _⟩ := hr0.2.2 (by simp)
     cases h
   subst h0
   go_enter Try.func52, Try.ntmps52
   go_wp2
   go_ret
   exact ⟨_, rfl, Kd.R_nil _ _ _ _ _, Below.refl _ _⟩
  ·have HR0 := Aside0.mk hr0
   clear hr0
   go_enter Try.func52, Try.ntmps52
   go_wp2_with (first | ((with_reducible refine aO_ (N := 5) rfl ?_); refine Kd.R_lit k32 _ 32 ?hg (N := 5) ?hd (xs := ([] : List S32)) (inner := []) (ok := fun _ => True) (okp := fun _ => True) ?hr ?hp (fun _ hk => hk) trivial (Below.refl _ _) (Nat.le_refl _) (by simp) ?_; (case hd => rfl); (case hg => rfl); (case hr => (go_simp; try rfl)); (case hp => exact (Reps.none _ _)); intro v1 w1 ho1 hb1 _ _; have HB1 := Aside0.mk hb1; have HO1 := Aside0.mk ho1; clear hb1 ho1) | ((with_reducible refine aP_ (b := .append) (xs := #[.tmp 5, .tmp 6]) rfl ?_); at_builtin; refine Kd.cI_ k32 (w0 := w) w.heap.size rfl (.tmp 5) (.tmp 6) 25 32 (.agg #[(.string ⟨#[]⟩), (.string ⟨#[]⟩), (.string ⟨#[]⟩)]) 48 rfl Try.underlying25 cf_ rfl (by decide) (by omega) v1 [] l0 _ _ _ (fun _ => True) (fun _ => False) rfl rfl HO1.out (Kd.bJ_ HR0.out HB1.out) (fun _ _ h => h) (fun _ h => h.elim) (fun _ _ => trivial) HB1.out HB1.out.size (by have := hl'.out; simp only [List.length_nil]; omega) ?_; intro v2 w2 ho2 hb2 _ _; have HO2 := Aside0.mk ho2; have HB2 := Aside0.mk hb2; clear ho2 hb2))
   go_ret
   exact ⟨_, rfl, by simpa using HO2.out, HB2.out⟩
 ·cases h
def bS_.f (k : Nat) (l0 : List (S32)) (a1 : ByteArray) (a2 : ByteArray) : Option ((List (S32)) × Int) := (aj_.f k l0).bind fun t101 => (if t101 = true then ((ap_.f k l0 a1 a2 (⟨#[]⟩ : ByteArray)).bind fun bt102 => (if bt102.2 = true then ((br_.f l0).bind fun t104 => ((cb_.f t104 bt102.1 (wrap64 (bt102.1 + 1))).bind fun t107 => (some (t107, 0)))) else (some (([] : List (S32)), 3)))) else (some (([] : List (S32)), 1)))
set_option maxHeartbeats 8000000 in
set_option maxRecDepth 100000 in
theorem bS_.calls (k : Nat) (A0 : Option Addr) (c0 : Nat) (l0 : List (S32)) (a1 : ByteArray) (a2 : ByteArray) (r1 : List (S32)) (r2 : Int) (w : World) (hr0 : Kd.C k32 w A0 l0.length l0) (hc0 : l0.length ≤ c0) (h : bS_.f k l0 a1 a2 = some (r1, r2)) :
  Calls Try.prog 32 #[.slice A0 l0.length c0, .string a1, .string a2] w fun e w' => ∃ v0_ : Value, e = .returned (.tuple #[v0_, .int .i64 r2]) ∧ Kd.R k32 32 w' w.heap.size (fun _ => True) v0_ r1 ∧ Below w.heap.size w w' := by
 have hu32 := Try.underlying32
 have HR0 := Aside0.mk hr0
 have HC0 := Aside0.mk hc0
 clear hr0 hc0
 have HB := Aside0.mk (Below.refl w.heap.size w)
 have H : ((aj_.f k l0).bind fun t101 => (if t101 = true then ((ap_.f k l0 a1 a2 (⟨#[]⟩ : ByteArray)).bind fun bt102 => (if bt102.2 = true then ((br_.f l0).bind fun t104 => ((cb_.f t104 bt102.1 (wrap64 (bt102.1 + 1))).bind fun t107 => (some (t107, 0)))) else (some (([] : List (S32)), 3)))) else (some (([] : List (S32)), 1)))) = some (r1, r2) := h
 clear h
 replace H := Option.bind_eq_some_iff.mp H
 obtain ⟨t101, A40, H⟩ := H
 (try dsimp only at H)
 have A4 := Aside0.mk A40
 clear A40
 have HC5 := Aside0.mk H
 clear H
 go_enter Try.func32, Try.ntmps32
 go_upto_if 12 with (first | ((with_reducible refine al_ (f := 22) rfl ?_); refine ba_ (some 11) rfl rfl Try.func22 (by kernel_rfl) rfl #[.slice A0 l0.length c0] rfl (by first | rfl | (simp only [lma_, lmc_, lmn_]; first | done | rfl)) ?_; (with_reducible refine (aj_.calls k _ _ l0 t101 _ ?side1 ?side2 A4.out).mono ?_); (case side1 => exact cz HR0.out); (case side2 => exact HC0.out); rintro e w6 ⟨rfl, hb⟩; refine ⟨_, rfl, ?_⟩; replace HB := Aside0.mk (ah_ (bz HB.out) hb); (try clear hb)))
 (try simp only [Act.put, lsa_, ls0_, ls1_])
 have H := HC5.out
 clear HC5
 by_cases c7 : t101 = true
 rotate_left
 ·replace c7 := Bool.eq_false_iff.mpr c7
  subst c7
  have H1 : (some (([] : List (S32)), 1)) = some (r1, r2) := by rw [if_neg (show ¬ (false = true) by decide)] at H; exact H
  clear H
  have H := H1
  clear H1
  simp only [Option.some.injEq, Prod.mk.injEq] at H
  obtain ⟨rfl, rfl⟩ := H
  go_wp2
  go_ret2
  exact ⟨_, by first | rfl | (simp [*, ay_, az_] <;> rfl), by first | exact Kd.R_nil _ _ _ _ _ | exact Kd.N_nil _ _ _ _ _ | exact Kd.V_nil _ _ _ _ _ | exact Kd.Q_nil _ _ _ _ _ | exact Kd.S_nil _ _ _ _ _, bz HB.out⟩
 subst c7
 have H1 : ((ap_.f k l0 a1 a2 (⟨#[]⟩ : ByteArray)).bind fun bt102 => (if bt102.2 = true then ((br_.f l0).bind fun t104 => ((cb_.f t104 bt102.1 (wrap64 (bt102.1 + 1))).bind fun t107 => (some (t107, 0)))) else (some (([] : List (S32)), 3)))) = some (r1, r2) := by rw [if_pos rfl] at H; exact H
 clear H
 have H := H1
 clear H1
 replace H := Option.bind_eq_some_iff.mp H
 obtain ⟨⟨t102, t103⟩, A80, H⟩ := H
 (try dsimp only at H)
 have A8 := Aside0.mk A80
 clear A80
 have HC9 := Aside0.mk H
 clear H
 go_upto_if 22 with (first | ((with_reducible refine al_ (f := 49) rfl ?_); refine ba_ (some 18) rfl rfl Try.func49 (by kernel_rfl) rfl #[.slice A0 l0.length c0, .agg #[.string a1, .string a2, .string (⟨#[]⟩ : ByteArray)], .func (.func 47) #[] #[]] rfl (by first | rfl | (simp only [lma_, lmc_, lmn_]; first | done | rfl)) ?_; (with_reducible refine (ap_.calls k _ _ l0 a1 a2 (⟨#[]⟩ : ByteArray)  t102 t103 _ ?side1 ?side2 A8.out).mono ?_); (case side1 => exact cz (Kd.bJ_ HR0.out HB.out)); (case side2 => exact HC0.out); rintro e w10 ⟨rfl, hb⟩; refine ⟨_, rfl, ?_⟩; replace HB := Aside0.mk (ah_ (bz HB.out) hb); (try clear hb)))
 (try simp only [Act.put, lsa_, ls0_, ls1_])
 have H := HC9.out
 clear HC9
 by_cases c11 : t103 = true
 rotate_left
 ·replace c11 := Bool.eq_false_iff.mpr c11
  subst c11
  have H1 : (some (([] : List (S32)), 3)) = some (r1, r2) := by rw [if_neg (show ¬ (false = true) by decide)] at H; exact H
  clear H
  have H := H1
  clear H1
  simp only [Option.some.injEq, Prod.mk.injEq] at H
  obtain ⟨rfl, rfl⟩ := H
  go_wp2
  go_ret2
  exact ⟨_, by first | rfl | (simp [*, ay_, az_] <;> rfl), by first | exact Kd.R_nil _ _ _ _ _ | exact Kd.N_nil _ _ _ _ _ | exact Kd.V_nil _ _ _ _ _ | exact Kd.Q_nil _ _ _ _ _ | exact Kd.S_nil _ _ _ _ _, bz HB.out⟩
 subst c11
 have H1 : ((br_.f l0).bind fun t104 => ((cb_.f t104 t102 (wrap64 (t102 + 1))).bind fun t107 => (some (t107, 0)))) = some (r1, r2) := by rw [if_pos rfl] at H; exact H
 clear H
 have H := H1
 clear H1
 replace H := Option.bind_eq_some_iff.mp H
 obtain ⟨t104, A120, H⟩ := H
 (try dsimp only at H)
 have A12 := Aside0.mk A120
 clear A120
 replace H := Option.bind_eq_some_iff.mp H
 obtain ⟨t107, A130, H⟩ := H
 (try dsimp only at H)
 have A13 := Aside0.mk A130
 clear A130
 simp only [Option.some.injEq, Prod.mk.injEq] at H
 obtain ⟨rfl, rfl⟩ := H
 go_wp2_with (first | ((with_reducible refine al_ (f := 52) rfl ?_); refine ba_ (some 24) rfl rfl Try.func52 (by kernel_rfl) rfl #[.slice A0 l0.length c0] rfl (by first | rfl | (simp only [lma_, lmc_, lmn_]; first | done | rfl)) ?_; (with_reducible refine (br_.calls _ _ l0 t104 _ ?side1 ?side2 A12.out).mono ?_); (case side1 => exact cz (Kd.bJ_ HR0.out HB.out)); (case side2 => exact HC0.out); rintro e w14 ⟨v105, rfl, ho0, hb⟩; refine ⟨_, rfl, ?_⟩; have HO106 := Aside0.mk (Kd.bp_ ho0 (am_ (bz HB.out))); replace HB := Aside0.mk (ah_ (bz HB.out) hb); (try clear hb); (try clear ho0); obtain ⟨Ao15, co15, eo15⟩ := Kd.bo_ HO106.out; subst eo15) | ((with_reducible refine al_ (f := 51) rfl ?_); refine ba_ (some 28) rfl rfl Try.func51 (by kernel_rfl) rfl #[.slice Ao15 t104.length co15, .int .i64 t102, .int .i64 (wrap64 (t102 + 1))] rfl (by first | rfl | (simp only [lma_, lmc_, lmn_]; first | done | rfl)) ?_; (with_reducible refine (cb_.calls (fun k_ => some k_ = (.slice Ao15 t104.length co15 : Value).ownBlock) (.slice Ao15 t104.length co15) t104 t102 (wrap64 (t102 + 1)) t107 w _ ?side1 ?side2 A13.out).mono ?_); (case side1 => exact bz HB.out); (case side2 => exact Kd.R_tight rfl HO106.out); rintro e w16 ⟨v108, rfl, ho0, hb, hkp⟩; refine ⟨_, rfl, ?_⟩; have HO109 := Aside0.mk (Kd.aD_ (ok' := fun k_ => True) ho0 (fun k_ hk_ => trivial)); replace HB := Aside0.mk (hb); clear HO106; (try clear hb); (try clear hkp); (try clear ho0)))
 go_ret2
 exact ⟨_, by first | rfl | (simp [*, ay_, az_] <;> rfl), rz HO109.out, bz HB.out⟩
def bK_.f (l0 : List S32) (a1 : Int) (l2 : List S32) : Option (List S32) := match l2 with
 | [x] => if 0 ≤ a1 ∧ a1 ≤ (l0.length : Int) ∧ l0.length + 1 < 2932031007402 then some (l0.take a1.toNat ++ [x] ++ l0.drop a1.toNat) else none
 | _ => none
set_option maxHeartbeats 2000000 in
set_option maxRecDepth 100000 in
theorem bK_.calls (P0_ : Nat → Prop) (u9000_ : Value) (l0 : List S32) (a1 : Int) (P2_ : Nat → Prop) (u9001_ : Value) (l2 : List S32) (r : List S32) (w0 w : World) (hB : Below w0.heap.size w0 w) (ho0 : Kd.R k32 32 w w0.heap.size P0_ u9000_ l0) (hp0_2 : ∀ k_, P0_ k_ → ¬ P2_ k_) (ho2 : Kd.R k32 32 w w0.heap.size P2_ u9001_ l2) (hp2_0 : ∀ k_, P2_ k_ → ¬ P0_ k_) (h : bK_.f l0 a1 l2 = some r) :
  Calls Try.prog 54 #[u9000_, .int .i64 a1, u9001_] w fun e w' => ∃ v0_ : Value, e = .returned (v0_) ∧ Kd.R k32 32 w' w0.heap.size (fun k_ => ((P0_ k_ ∨ P2_ k_) ∨ w.heap.size ≤ k_)) v0_ r ∧ Below w0.heap.size w0 w' ∧ Kept w w' (fun k_ => P0_ k_ ∨ P2_ k_) := by
 unfold bK_.f at h
 split at h
 case h_2 => cases h
 rename_i x
 split at h
 case isFalse => cases h
 rename_i hc
 obtain ⟨h0, h1, hlim⟩ := hc
 obtain rfl := Option.some.inj h
 obtain ⟨i, rfl⟩ := Int.eq_ofNat_of_zero_le h0
 rw [Int.toNat_natCast]
 have hF : SLX.Flat k32 := ⟨fun _ _ _ _ _ _ _ _ h => h, fun _ _ _ _ _ h => h⟩
 have hsz : maxLen = 9223372036854775807 := by decide
 rcases SLX.R_open ho2 with ⟨_, hx⟩ | ⟨g2, c2, cur2, okk2, rfl, hok2, hbg2, hh2, hnc2, hcm2, hcs2, hrep2⟩
 ·cases hx
 have hl1 : ([x] : List S32).length = 1 := rfl
 rw [hl1] at hnc2 hrep2 ho2 ⊢
 obtain ⟨i0, hi0, hz0, hzs, hzb⟩ := info_parts cf_
 have hC2 := (Kd.av_ ho2).2.2
 rw [hl1] at hC2
 have hRow : Reps (Kd.M k32 w w0.heap.size okk2) 3 [x] (cur2.toList.take 3) := by
  have h := hrep2
  rw [Nat.one_mul] at h
  exact h
 obtain ⟨cx, hcx⟩ : ∃ cx, cx = cur2.toList.take 3 := ⟨_, rfl⟩
 rw [← hcx] at hRow
 have hcxl : cx.length = 3 := by simpa using hRow.1
 have hcx1 : ∀ v ∈ cx, v.oneCell' = true := by
  have := hRow.2 0 x rfl
  have h2 : (cx.drop (0 * 3)).take 3 = cx := by rw [Nat.zero_mul, List.drop_zero]; exact List.take_of_length_le (by omega)
  rw [h2] at this
  exact Kd.K_one k32 (Kd.K_of_M k32 this)
 have hcxc : ∀ (W : World), W.heap[g2]? = some (.cells cur2 32 (0, 0)) → ∀ j v, cx[j]? = some v → W.cell? ((⟨g2, 0, none⟩ : Addr).add j) = some v := by
  intro W hW j v hj
  rw [add_plain, cell_of_row W g2 _ cur2 32 (0, 0) hW, ← Array.getElem?_toList]
  rw [hcx, List.getElem?_take] at hj
  split at hj
  ·exact hj
  ·cases hj
 by_cases hend : i = l0.length
 ·
  subst hend
  rw [List.take_length, List.drop_length, List.append_nil]
  have HOm : Kd.R k32 32 w w0.heap.size (fun k_ => ((P0_ k_ ∨ P2_ k_) ∨ w.heap.size ≤ k_)) u9000_ l0 := Kd.aD_ ho0 (fun _ hk => .inl (.inl hk))
  have HKS : ∀ k, u9000_.ownBlock = some k → P0_ k := ho0.1
  obtain ⟨A0, c0, rfl, hc0, _⟩ := Kd.R_reads ho0
  have HO := Aside0.mk HOm
  have HB := Aside0.mk hB
  have HC := Aside0.mk hC2
  have HL := Aside0.mk hlim
  have HS := Aside0.mk HKS
  clear ho0 HOm hB hC2 hlim hcx1 hcxc hRow hrep2 h h1 h0 hp0_2 hp2_0 HKS
  go_enter Try.func54, Try.ntmps54
  go_wp2_with ((with_reducible refine aP_ (b := .append) (xs := #[.tmp 23, .tmp 24]) rfl ?_); at_builtin; refine Kd.cI_ k32 (w0 := w0) w0.heap.size rfl (.tmp 23) (.tmp 24) 25 32 (.agg #[(.string ⟨#[]⟩), (.string ⟨#[]⟩), (.string ⟨#[]⟩)]) 48 rfl Try.underlying25 cf_ rfl (by decide) (by omega) _ l0 [x] _ _ _ (fun k_ => ((P0_ k_ ∨ P2_ k_) ∨ w.heap.size ≤ k_)) (fun _ => False) rfl rfl HO.out HC.out (fun _ _ h => h) (fun _ h => h.elim) (fun _ hk => .inr hk) HB.out HB.out.size (by have := HL.out; omega) ?_; intro v1 w1 ho1 hb1 hg1 _; have HO1 := Aside0.mk ho1; have HB1 := Aside0.mk hb1; have HK1 := Aside0.mk (SLX.kept_of_grown' (S := fun k_ => P0_ k_ ∨ P2_ k_) hg1 (fun k hk => .inl (HS.out k hk))); clear ho1 hb1 hg1)
  all_goals
   go_ret
   exact ⟨_, rfl, HO1.out, HB1.out, HK1.out⟩
 ·
  rcases SLX.R_open ho0 with ⟨_, rfl⟩ | ⟨g, c, cur, okk, rfl, hok, hbg, hh, hnc, hcm, hcs, hrep⟩
  ·simp at h1 hend; omega
  obtain ⟨n, hn⟩ : ∃ n, n = l0.length := ⟨_, rfl⟩
  have hi : i < n := by omega
  have hgg : g ≠ g2 := fun e => hp0_2 g hok (e ▸ hok2)
  obtain ⟨CS, hCS⟩ : ∃ CS, CS = cur.toList.take (l0.length * 3) := ⟨_, rfl⟩
  have hrepC : Reps (Kd.M k32 w w0.heap.size okk) 3 l0 CS := by rw [hCS]; exact hrep
  have hCSl : CS.length = n * 3 := by rw [hrepC.1, hn]
  have hcsz : cur.size = c * 3 := hcs
  have hnc3 : n * 3 ≤ c * 3 := Nat.mul_le_mul_right _ (by omega)
  have hin3 : i * 3 + 3 ≤ n * 3 := by have := Nat.mul_le_mul_right 3 (show i + 1 ≤ n by omega); rw [Nat.add_mul, Nat.one_mul] at this; exact this
  have hCS1 : ∀ v ∈ CS, v.oneCell' = true := by
   intro v hv
   obtain ⟨q, hq, rfl⟩ := List.mem_iff_getElem.1 hv
   have hql : q / 3 < l0.length := by omega
   refine Kd.K_one k32 (Kd.K_of_M k32 (hrepC.2 (q / 3) _ (List.getElem?_eq_getElem hql))) _ ?_
   rw [List.mem_iff_getElem?]
   refine ⟨q % 3, ?_⟩
   rw [List.getElem?_take, if_pos (by omega), List.getElem?_drop, show q / 3 * 3 + q % 3 = q by omega, List.getElem?_eq_getElem hq]
  have hCSc : ∀ (W : World), W.heap[g]? = some (.cells cur 32 (0, 0)) → ∀ p j v, (CS.drop p)[j]? = some v → W.cell? ((⟨g, p, none⟩ : Addr).add j) = some v := by
   intro W hW p j v hj
   rw [Addr.add_lit, cell_of_row W g _ cur 32 (0, 0) hW, ← Array.getElem?_toList]
   rw [List.getElem?_drop, hCS, List.getElem?_take] at hj
   split at hj
   ·exact hj
   ·cases hj
  have hDl : (CS.drop (i * 3)).length = (n - i) * 3 := by rw [List.length_drop, hCSl, Nat.sub_mul]
  have hRes : Reps (Kd.M k32 w w0.heap.size okk) 3 (l0.take i ++ [x] ++ l0.drop i) (CS.take (i * 3) ++ cx ++ CS.drop (i * 3)) :=
   Kd.reps_append (Kd.reps_append (Kd.reps_take hrepC (by omega)) (SLX.reps_imp hRow (fun _ _ h => hF.1 _ _ _ _ _ _ _ _ h))) (Kd.reps_drop hrepC)
  have hsz3 : (Try.prog.info? 32).map (·.size) = some 3 := by rw [hi0]; simp [hzs]
  have hrl : (l0.take i ++ [x] ++ l0.drop i).length = n + 1 := by simp; omega
  have b1 : i ≤ n := by omega
  have b2 : n ≤ c := by omega
  have b3 : ¬ ((i : Int) = (n : Int)) := by omega
  have b4 : ¬ c = i := by omega
  have b5 : i ≤ c := by omega
  have b6 : (0 : Int) ≤ (i : Int) + 1 := by omega
  have b7 : (i : Int) + 1 ≤ (n : Int) + 1 := by omega
  have b8 : ((i : Int) + 1).toNat = i + 1 := by omega
  have b9 : (i : Int) ≤ (n : Int) + 1 := by omega
  have hlm : n < 140737488355328 := by omega
  have w1_ : IntKind.i64.wrap ((n : Int) + 1) = (n : Int) + 1 := by rw [IntKind.wrap_i64]; omega
  have w2_ : IntKind.i64.wrap ((i : Int) + 1) = (i : Int) + 1 := by rw [IntKind.wrap_i64]; omega
  have w3_ : IntKind.i64.wrap ((n : Int) + 1 - (i : Int)) = (n : Int) + 1 - (i : Int) := by rw [IntKind.wrap_i64]; omega
  rw [← hn]
  by_cases hroom : n + 1 ≤ c
  ·
   have hl := SLX.shift_list cur.toList cx (CS.drop (i * 3)) (i * 3) (by rw [hcxl, hDl, Array.length_toList, hcsz]; have := Nat.mul_le_mul_right 3 hroom; omega)
   rw [hcxl, hDl, show i * 3 + 3 + (n - i) * 3 = (n + 1) * 3 by omega, show i * 3 + 3 = (i + 1) * 3 by omega] at hl
   obtain ⟨c1, hc1⟩ : ∃ c1 : Array Value, c1 = (cur.toList.take ((i + 1) * 3) ++ CS.drop (i * 3) ++ cur.toList.drop ((n + 1) * 3)).toArray := ⟨_, rfl⟩
   obtain ⟨c3, hc3⟩ : ∃ c3 : Array Value, c3 = (c1.toList.take (i * 3) ++ cx ++ c1.toList.drop ((i + 1) * 3)).toArray := ⟨_, rfl⟩
   have hc1s : c1.size = cur.size := by rw [hc1]; simp [hDl, hcsz]; have := Nat.mul_le_mul_right 3 hroom; omega
   have e1 : c3.toList.take ((n + 1) * 3) = CS.take (i * 3) ++ cx ++ CS.drop (i * 3) := by
    have h := hl.1
    rw [hc3, hc1]
    simp only [List.toList_toArray]
    rw [h, hCS, List.take_take, Nat.min_eq_left (by rw [← hn]; omega)]
   have e2 : c3.size = c * 3 := by
    have h := hl.2
    rw [← hcsz, ← Array.length_toList, ← Array.length_toList, hc3, hc1]
    simpa only [List.toList_toArray] using h
   have hov : ∀ lb cb, (callFunc 61 #[.slice (some ⟨g2, 0, none⟩) 1 c2, .slice (some ⟨g, (i + 1) * 3, none⟩) lb cb]).run Try.prog w = .ok (.value (.bool false)) w := fun lb cb => by
    rw [run_callFunc_extern Try.func61 (by kernel_rfl) (by kernel_rfl) (by kernel_rfl) (e := Extern.SlicesOverlaps.overlaps #[25, 25] #[4]) (by kernel_rfl),
     Lib.run_overlaps_apart w 25 4 32 Try.underlying25 3 Try.sizeOf32 ⟨g2, 0, none⟩ ⟨g, (i + 1) * 3, none⟩ 1 c2 lb cb (Ne.symm hgg) 32 32 cur2.size cur.size (by simp [World.shape?, hh2]) (by simp [World.shape?, hh]) (by rw [hcsz]; omega) (bg_ hh2 _) (bg_ hh2 _)]
    rfl
   have hA1 : ∀ ty dl dc sl sc, dl = n - i → sl = n + 1 - i → (Builtin.copy_ #[25, 25] ty #[.slice (some ⟨g, (i + 1) * 3, none⟩) dl dc, .slice (some ⟨g, i * 3, none⟩) sl sc]).run Try.prog w.drew = .ok (goInt (Nat.min sl dl)) (w.drew.setRow g c1) := fun ty dl dc sl sc hdl hsl => by
    have := SLX.run_copy_k (P := Try.prog) w.drew 25 25 ty 32 3 g ((i + 1) * 3) dl dc ⟨g, i * 3, none⟩ sl sc cur 32 (CS.drop (i * 3)) Try.underlying25 hsz3 hh (by rw [hDl]; congr 1; simp only [Nat.min_def]; split <;> omega)
     (hCSc w.drew hh _) (by rw [hDl, hcsz]; have := Nat.mul_le_mul_right 3 hroom; omega) (fun v hv => hCS1 v (List.mem_of_mem_drop hv))
    rw [hDl, show (i + 1) * 3 + (n - i) * 3 = (n + 1) * 3 by omega, ← hc1] at this
    exact this
   have hh3 : (w.drew.setRow g c1).heap[g]? = some (.cells c1 32 (0, 0)) := setRow_heap w.drew g cur c1 32 (0, 0) hh
   have hh4 : (w.drew.setRow g c1).heap[g2]? = some (.cells cur2 32 (0, 0)) := (setRow_other w.drew g g2 c1 (Ne.symm hgg)).trans hh2
   have hA2 : ∀ ty dl dc, dl = n + 1 - i → (Builtin.copy_ #[25, 25] ty #[.slice (some ⟨g, i * 3, none⟩) dl dc, .slice (some ⟨g2, 0, none⟩) 1 c2]).run Try.prog (w.drew.setRow g c1) = .ok (goInt (Nat.min 1 dl)) ((w.drew.setRow g c1).setRow g c3) := fun ty dl dc hdl => by
    have := SLX.run_copy_k (P := Try.prog) (w.drew.setRow g c1) 25 25 ty 32 3 g (i * 3) dl dc ⟨g2, 0, none⟩ 1 c2 c1 32 cx Try.underlying25 hsz3 hh3 (by rw [hcxl]; simp only [Nat.min_def]; split <;> omega)
     (hcxc _ hh4) (by rw [hcxl, hc1s, hcsz]; omega) hcx1
    rw [hcxl, show i * 3 + 3 = (i + 1) * 3 by omega, ← hc3] at this
    exact this
   have HG : w.grownBy ((w.drew.setRow g c1).setRow g c3) (some g) := World.grownBy.trans (World.grownBy.trans (cv_ (cE_ (Below.refl _ _)) _) (SLX.cO_ w.drew g c1)) (SLX.cO_ _ g c3)
   have HB := Aside0.mk (hB.grown HG hB.size (fun k hk => by injection hk with hk; subst hk; exact hbg))
   have HK := Aside0.mk (SLX.kept_of_grown (S := fun k_ => P0_ k_ ∨ P2_ k_) HG (.inl hok))
   have HR := Aside0.mk (SLX.R_shut (d := k32) (e := 32) (W := (w.drew.setRow g c1).setRow g c3) (base := w0.heap.size) (g := g) (c := c) (n := n + 1) (ok := fun k_ => ((P0_ k_ ∨ P2_ k_) ∨ w.heap.size ≤ k_)) (xs := l0.take i ++ [x] ++ l0.drop i) (.inl (.inl hok)) hbg (setRow_heap _ g c1 c3 32 (0, 0) hh3) hrl.symm hroom hcm e2
    (by show Reps _ 3 _ (List.take ((n + 1) * 3) _); rw [e1]; exact SLX.reps_imp hRes (fun _ _ h => hF.1 _ _ _ _ _ _ _ _ h)))
   have b10 : ¬ c = i + 1 := by omega
   have b11 : ¬ ((c : Int) < (n : Int) + 1) := by omega
   have b12 : n + 1 ≤ c := hroom
   have b13 : i + 1 ≤ c := by omega
   have b14 : i ≤ n + 1 := by omega
   clear HG hh3 hh4 hl e1 e2 hc1 hc3 hc1s hRes hrepC hCSc hCSl hDl hCS hCS1 hcxc hcx hRow hrep hrep2 hh hh2 ho0 ho2 hB hC2 hcs hcs2 h h0 h1 hlim hrl hend hnc
   have HN := Aside0.mk hn
   clear hn
   go_enter Try.func54, Try.ntmps54
   go_wp2_with (simp only [hov])
   go_region_law (refine SLX.step_copy_runS rfl (.tmp 73) (.tmp 76) 25 25 rfl (.slice (some ⟨g, (i + 1) * 3, none⟩) (n + 1 - (i + 1)) (c - (i + 1))) (.slice (some ⟨g, i * 3, none⟩) (n + 1 - i) (c - i)) (by simp [Act.eval, Act.put]) (by simp [Act.eval, Act.put]) (hA1 _ _ _ _ _ (by omega) (by omega)) ?_)
   go_wp2_with (at_builtin; refine SLX.list_copy_runS rfl (.tmp 80) (.tmp 81) 25 25 rfl _ _ rfl rfl (hA2 _ _ _ (by omega)) ?_)
   go_ret
   exact ⟨_, rfl, HR.out, HB.out, HK.out⟩
  ·
   have hgl : g < w.heap.size := (Array.getElem?_eq_some_iff.1 hh).1
   have hgl2 : g2 < w.heap.size := (Array.getElem?_eq_some_iff.1 hh2).1
   have hold : (Builtin.firstCells i0.size i (.slice (some ⟨g, 0, none⟩) i c)).run Try.prog w.drew = .ok (CS.take (i * 3)).toArray w.drew := by
    rw [hzs]
    refine run_firstCells_some w.drew 3 i ⟨g, 0, none⟩ i c (CS.take (i * 3)) (by rw [List.length_take, hCSl]; omega) (fun j v hj => ?_)
    rw [List.getElem?_take] at hj
    split at hj
    ·exact hCSc w.drew hh 0 j v (by rwa [List.drop_zero])
    ·cases hj
   obtain ⟨G, hG⟩ : ∃ G, G = grownCap w (n + 1) c 32 := ⟨_, rfl⟩
   have hGn : n + 1 ≤ G := by rw [hG]; exact grownCap_ge w _ _ _
   have hGm : G ≤ maxLen := by rw [hG]; exact grownCap_le_maxLen w (n + 1) c 32 (by rw [hsz]; omega)
   obtain ⟨ROW, hROW⟩ : ∃ ROW : Array Value, ROW = (CS.take (i * 3)).toArray ++ Builtin.zeroCells (Value.cells (.agg #[(.string ⟨#[]⟩), (.string ⟨#[]⟩), (.string ⟨#[]⟩)])) (n + 1 - i) ++ Builtin.zeroCells (Value.cells (.agg #[(.string ⟨#[]⟩), (.string ⟨#[]⟩), (.string ⟨#[]⟩)])) (G - (n + 1)) := ⟨_, rfl⟩
   have hzc : (Value.cells (.agg #[(.string ⟨#[]⟩), (.string ⟨#[]⟩), (.string ⟨#[]⟩)])).size = 3 := rfl
   have hRs : ROW.size = G * 3 := by
    rw [hROW, Array.size_append, Array.size_append, SLX.zeroCells_size, SLX.zeroCells_size, hzc, List.size_toArray, List.length_take, hCSl]
    have := Nat.mul_le_mul_right 3 hGn
    omega
   have hGn3 : (n + 1) * 3 ≤ G * 3 := Nat.mul_le_mul_right _ hGn
   have hRt : ROW.toList.take (i * 3) = CS.take (i * 3) := by
    rw [hROW, Array.toList_append, Array.toList_append, List.append_assoc]
    exact List.take_left' (by simp [hCSl]; omega)
   have hrz : ∀ ty, (Builtin.append_ #[25, 3] ty #[.slice (some ⟨g, 0, none⟩) i c, .int .i64 ((n : Int) + 1 - (i : Int))]).run Try.prog w = .ok (.slice (some ⟨w.heap.size, 0, none⟩) (n + 1) G) (w.drew.alloc (.cells ROW 32)) := fun ty => by
    have h := Lib.run_append_grow_zeros (P := Try.prog) w 25 3 ty 32 i0 (.agg #[(.string ⟨#[]⟩), (.string ⟨#[]⟩), (.string ⟨#[]⟩)]) .i64 .i64 Try.underlying25 Try.underlying3 hi0 hz0 (some ⟨g, 0, none⟩) i c (CS.take (i * 3)) hold (n + 1 - i) (by omega) (by rw [hzs]; decide) (by omega) (by omega) (by rw [hzb]; omega) (by rw [hzb, show i + (n + 1 - i) = n + 1 by omega]; exact growslice_fits (by omega) (by omega))
    rw [show i + (n + 1 - i) = n + 1 by omega, ← hG, ← hROW] at h
    rw [show (n : Int) + 1 - (i : Int) = ((n + 1 - i : Nat) : Int) by omega]
    exact h
   have hl := SLX.ins_list ROW.toList cx (CS.drop (i * 3)) (i * 3) (by rw [hcxl, hDl, Array.length_toList, hRs]; omega)
   rw [hcxl, hDl, show i * 3 + 3 + (n - i) * 3 = (n + 1) * 3 by omega, show i * 3 + 3 = (i + 1) * 3 by omega, hRt] at hl
   obtain ⟨c1, hc1⟩ : ∃ c1 : Array Value, c1 = (CS.take (i * 3) ++ cx ++ ROW.toList.drop ((i + 1) * 3)).toArray := ⟨_, rfl⟩
   obtain ⟨c3, hc3⟩ : ∃ c3 : Array Value, c3 = (c1.toList.take ((i + 1) * 3) ++ CS.drop (i * 3) ++ c1.toList.drop ((n + 1) * 3)).toArray := ⟨_, rfl⟩
   have hc1s : c1.size = G * 3 := by rw [hc1]; simp [hCSl, hcxl, hRs]; omega
   have e1 : c3.toList.take ((n + 1) * 3) = CS.take (i * 3) ++ cx ++ CS.drop (i * 3) := by
    rw [hc3, hc1]
    simpa only [List.toList_toArray] using hl.1
   have e2 : c3.size = G * 3 := by
    have h := hl.2
    rw [← hRs, ← Array.length_toList, ← Array.length_toList, hc3, hc1]
    simpa only [List.toList_toArray] using h
   have hA1 : ∀ (W : World), W.heap[w.heap.size]? = some (.cells ROW 32 (0, 0)) → W.heap[g2]? = some (.cells cur2 32 (0, 0)) → ∀ ty dl dc, dl = n + 1 - i → (Builtin.copy_ #[25, 25] ty #[.slice (some ⟨w.heap.size, i * 3, none⟩) dl dc, .slice (some ⟨g2, 0, none⟩) 1 c2]).run Try.prog W = .ok (goInt (Nat.min 1 dl)) (W.setRow w.heap.size c1) := fun W hW hW2 ty dl dc hdl => by
    have := SLX.run_copy_k (P := Try.prog) W 25 25 ty 32 3 w.heap.size (i * 3) dl dc ⟨g2, 0, none⟩ 1 c2 ROW 32 cx Try.underlying25 hsz3 hW (by rw [hcxl]; simp only [Nat.min_def]; split <;> omega)
     (hcxc W hW2) (by rw [hcxl, hRs]; omega) hcx1
    rw [hcxl, show i * 3 + 3 = (i + 1) * 3 by omega, hRt, ← hc1] at this
    exact this
   have hA2 : ∀ (W : World), W.heap[w.heap.size]? = some (.cells c1 32 (0, 0)) → W.heap[g]? = some (.cells cur 32 (0, 0)) → ∀ ty dl dc sl sc, dl = n - i → sl = n - i → (Builtin.copy_ #[25, 25] ty #[.slice (some ⟨w.heap.size, (i + 1) * 3, none⟩) dl dc, .slice (some ⟨g, i * 3, none⟩) sl sc]).run Try.prog W = .ok (goInt (Nat.min sl dl)) (W.setRow w.heap.size c3) := fun W hW hW2 ty dl dc sl sc hdl hsl => by
    have := SLX.run_copy_k (P := Try.prog) W 25 25 ty 32 3 w.heap.size ((i + 1) * 3) dl dc ⟨g, i * 3, none⟩ sl sc c1 32 (CS.drop (i * 3)) Try.underlying25 hsz3 hW (by rw [hDl]; congr 1; simp only [Nat.min_def]; split <;> omega)
     (hCSc W hW2 _) (by rw [hDl, hc1s]; omega) (fun v hv => hCS1 v (List.mem_of_mem_drop hv))
    rw [hDl, show (i + 1) * 3 + (n - i) * 3 = (n + 1) * 3 by omega, ← hc3] at this
    exact this
   obtain ⟨Wa, hWa⟩ : ∃ Wa, Wa = (w.alloc (.cells ROW 32)).drew := ⟨_, rfl⟩
   have a1_ : Wa.heap[w.heap.size]? = some (.cells ROW 32 (0, 0)) := by rw [hWa]; exact heap_alloc_new w _
   have a2_ : Wa.heap[g2]? = some (.cells cur2 32 (0, 0)) := by rw [hWa]; exact (heap_alloc_old w _ hgl2).trans hh2
   have a3_ : Wa.heap[g]? = some (.cells cur 32 (0, 0)) := by rw [hWa]; exact (heap_alloc_old w _ hgl).trans hh
   have a4_ : (Wa.setRow w.heap.size c1).drew.heap[w.heap.size]? = some (.cells c1 32 (0, 0)) := setRow_heap Wa _ ROW c1 32 (0, 0) a1_
   have a5_ : (Wa.setRow w.heap.size c1).drew.heap[g]? = some (.cells cur 32 (0, 0)) := (setRow_other Wa _ g c1 (by omega)).trans a3_
   have r1 : ∀ ty dl dc, dl = n + 1 - i → _ := hA1 Wa a1_ a2_
   have r2 : ∀ ty dl dc sl sc, dl = n - i → sl = n - i → _ := hA2 (Wa.setRow w.heap.size c1).drew a4_ a5_
   have HG : w.grownBy ((Wa.setRow w.heap.size c1).drew.setRow w.heap.size c3) (some w.heap.size) := by
    refine World.grownBy.trans (World.grownBy.trans (World.grownBy.trans (b := Wa) ?_ (SLX.cO_ Wa w.heap.size c1)) (cv_ (cE_ (Below.refl _ _)) _)) (SLX.cO_ _ _ c3)
    rw [hWa]
    exact cv_ (cE_ (bA_ (Below.refl _ _) _)) _
   have HB := Aside0.mk (hB.grown HG hB.size (fun k hk => by injection hk with hk; subst hk; exact hB.size))
   have HK : Aside0 (Kept w ((Wa.setRow w.heap.size c1).drew.setRow w.heap.size c3) (fun k_ => P0_ k_ ∨ P2_ k_)) := ⟨⟨HG.size, fun k hk _ => HG.block k hk (fun he => by injection he with he; omega)⟩⟩
   have HR := Aside0.mk (SLX.R_shut (d := k32) (e := 32) (W := (Wa.setRow w.heap.size c1).drew.setRow w.heap.size c3) (base := w0.heap.size) (g := w.heap.size) (c := G) (n := n + 1) (ok := fun k_ => ((P0_ k_ ∨ P2_ k_) ∨ w.heap.size ≤ k_)) (xs := l0.take i ++ [x] ++ l0.drop i) (.inr (Nat.le_refl _)) hB.size (setRow_heap _ _ c1 c3 32 (0, 0) a4_) hrl.symm hGn hGm e2
    (by show Reps _ 3 _ (List.take ((n + 1) * 3) _); rw [e1]; exact SLX.reps_imp hRes (fun _ _ h => hF.1 _ _ _ _ _ _ _ _ h)))
   have b10 : ¬ G = i + 1 := by omega
   have b11 : ((c : Int) < (n : Int) + 1) := by omega
   have b12 : ¬ G = i := by omega
   have b13 : i + 1 ≤ G := by omega
   have b14 : i ≤ n + 1 := by omega
   have b15 : i ≤ G := by omega
   subst hWa
   clear HG hl e1 e2 hc1 hc3 hc1s hRes hrepC hCSc hCSl hDl hCS hCS1 hcxc hcx hRow hrep hrep2 hh hh2 ho0 ho2 hB hC2 hcs hcs2 h h0 h1 hlim hrl hend hnc hold hG hROW hRs hRt hA1 hA2 a1_ a2_ a3_ a4_ a5_ hgl hgl2
   have HN := Aside0.mk hn
   clear hn
   go_enter Try.func54, Try.ntmps54
   go_wp2_with (first
    | (at_builtin; refine SLX.list_append_runS rfl (.tmp 34) (.tmp 39) 25 3 rfl _ _ rfl rfl (hrz _) ?_)
    | (at_builtin; refine SLX.list_copy_runS rfl (.tmp 43) (.tmp 44) 25 25 rfl _ _ rfl rfl (r1 _ _ _ (by omega)) ?_))
   go_region_law (refine SLX.step_copy_runS rfl (.tmp 50) (.tmp 53) 25 25 rfl (.slice (some ⟨w.heap.size, (i + 1) * 3, none⟩) (n + 1 - (i + 1)) (G - (i + 1))) (.slice (some ⟨g, i * 3, none⟩) (n - i) (c - i)) (by simp [Act.eval, Act.put]) (by simp [Act.eval, Act.put]) (r2 _ _ _ _ _ (by omega) (by omega)) ?_)
   go_wp2
   go_ret
   exact ⟨_, rfl, HR.out, HB.out, HK.out⟩
def aW_.j0 : Nat → List (S32) → Bool → ByteArray → ByteArray → ByteArray → Option ((List (S32)) × Int)
 | 0, _, _, _, _, _ => none
 | k + 1, x0, x16, x102000, x102001, x102002 => if x16 = true then (some (([] : List (S32)), 1)) else ((br_.f x0).bind fun t104 => ((ap_.f k x0 x102000 x102001 x102002).bind fun bt107 => (if bt107.2 = true then (if 0 ≤ bt107.1 then (if bt107.1 < (t104.length : Int) then (some ((t104.set (bt107.1 : Int).toNat (⟨x102000, x102001, x102002⟩ : S32)), 0)) else (none)) else (none)) else (if (x0.length : Int) = 32 then (some (([] : List (S32)), 5)) else ((bK_.f t104 bt107.1 (([(⟨x102000, x102001, x102002⟩ : S32)] : List (S32)))).bind fun t113 => (some (t113, 0)))))))
def aW_.f (k : Nat) (l0 : List (S32)) (a1_0 : ByteArray) (a1_1 : ByteArray) (a1_2 : ByteArray) : Option ((List (S32)) × Int) := (aj_.f k l0).bind fun t102 => (if t102 = true then ((bx_.f k a1_0 a1_1 a1_2).bind fun t103 => (aW_.j0 k l0 (!t103) a1_0 a1_1 a1_2)) else (aW_.j0 k l0 true a1_0 a1_1 a1_2))
set_option maxHeartbeats 8000000 in
set_option maxRecDepth 100000 in
theorem aW_.calls (k : Nat) (A0 : Option Addr) (c0 : Nat) (l0 : List (S32)) (a1_0 : ByteArray) (a1_1 : ByteArray) (a1_2 : ByteArray) (r1 : List (S32)) (r2 : Int) (w : World) (hr0 : Kd.C k32 w A0 l0.length l0) (hc0 : l0.length ≤ c0) (h : aW_.f k l0 a1_0 a1_1 a1_2 = some (r1, r2)) :
  Calls Try.prog 35 #[.slice A0 l0.length c0, .agg #[.string a1_0, .string a1_1, .string a1_2]] w fun e w' => ∃ v0_ : Value, e = .returned (.tuple #[v0_, .int .i64 r2]) ∧ Kd.R k32 32 w' w.heap.size (fun _ => True) v0_ r1 ∧ Below w.heap.size w w' := by
 have hu32 := Try.underlying32
 have HR0 := Aside0.mk hr0
 have HC0 := Aside0.mk hc0
 clear hr0 hc0
 have HB := Aside0.mk (Below.refl w.heap.size w)
 have H : ((aj_.f k l0).bind fun t102 => (if t102 = true then ((bx_.f k a1_0 a1_1 a1_2).bind fun t103 => (aW_.j0 k l0 (!t103) a1_0 a1_1 a1_2)) else (aW_.j0 k l0 true a1_0 a1_1 a1_2))) = some (r1, r2) := h
 clear h
 have HC3 := Aside0.mk H
 clear H
 go_enter Try.func35, Try.ntmps35
 go_upto_region 1 with (first | ((with_reducible refine aO_ (N := 3) rfl ?_); refine bB_ ?hg (N := 3) ?hd (cs := #[.string a1_0, .string a1_1, .string a1_2]) (t := 32) ?hr ?_; (case hd => rfl); (case hg => rfl); (case hr => (go_simp; try rfl)); intro gb101 hg w4 hbox hb; have BK101 := Aside0.mk (hbox); have GW101 := Aside0.mk ((by rw [hg]; exact (am_ (bz HB.out)) : w.heap.size ≤ gb101)); have GE101 := GW101; replace HB := Aside0.mk (ah_ (bz HB.out) hb); clear hb hbox hg))
 (try simp only [Act.put, lsa_, ls0_, ls1_])
 go_cut [16] (fun v16 wc => ∃ (kq : Nat) (x16_2 : Bool), v16 = .bool x16_2 ∧ Aside0 (aW_.j0 kq l0 x16_2 a1_0 a1_1 a1_2 = some (r1, r2)) ∧ Aside0 (kq ≤ k) ∧ Aside0 (wc.heap[gb101]? = some (.cells #[.string a1_0, .string a1_1, .string a1_2] 32 (0, 0))) ∧ Aside0 (Below w.heap.size w wc))
 case first =>
  have H := HC3.out
  clear HC3
  replace H := Option.bind_eq_some_iff.mp H
  obtain ⟨t102, A50, H⟩ := H
  (try dsimp only at H)
  have A5 := Aside0.mk A50
  clear A50
  by_cases c6 : t102 = true
  rotate_left
  ·replace c6 := Bool.eq_false_iff.mpr c6
   subst c6
   have H1 : (aW_.j0 k l0 true a1_0 a1_1 a1_2) = some (r1, r2) := by rw [if_neg (show ¬ (false = true) by decide)] at H; exact H
   clear H
   have H := H1
   clear H1
   have H' := Aside0.mk H
   clear H
   go_wp2_with (first | ((with_reducible refine al_ (f := 22) rfl ?_); refine ba_ (some 10) rfl rfl Try.func22 (by kernel_rfl) rfl #[.slice A0 l0.length c0] rfl (by first | rfl | (simp only [lma_, lmc_, lmn_]; first | done | rfl)) ?_; (with_reducible refine (aj_.calls k _ _ l0 false _ ?side1 ?side2 A5.out).mono ?_); (case side1 => exact cz (Kd.bJ_ HR0.out HB.out)); (case side2 => exact HC0.out); rintro e w11 ⟨rfl, hb⟩; refine ⟨_, rfl, ?_⟩; replace BK101 := Aside0.mk (aA_ (kz BK101.out) hb); replace HB := Aside0.mk (ah_ (bq) hb); (try clear hb)))
   go_meet
   case rel => exact ⟨_, (true), (by first | rfl | (simp; done) | (simp [*]; done)), H', ⟨by first | omega | exact Nat.le_refl _⟩, ⟨by (with_reducible repeat (first | refine bh_ ?_ _ | refine aZ_ ?_ | refine aR_ ?_ _)); exact BK101.out⟩, ⟨bq⟩⟩
  subst c6
  have H1 : ((bx_.f k a1_0 a1_1 a1_2).bind fun t103 => (aW_.j0 k l0 (!t103) a1_0 a1_1 a1_2)) = some (r1, r2) := by rw [if_pos rfl] at H; exact H
  clear H
  have H := H1
  clear H1
  replace H := Option.bind_eq_some_iff.mp H
  obtain ⟨t103, A70, H⟩ := H
  (try dsimp only at H)
  have A7 := Aside0.mk A70
  clear A70
  have H' := Aside0.mk H
  clear H
  go_wp2_with (first | ((with_reducible refine al_ (f := 22) rfl ?_); refine ba_ (some 10) rfl rfl Try.func22 (by kernel_rfl) rfl #[.slice A0 l0.length c0] rfl (by first | rfl | (simp only [lma_, lmc_, lmn_]; first | done | rfl)) ?_; (with_reducible refine (aj_.calls k _ _ l0 true _ ?side1 ?side2 A5.out).mono ?_); (case side1 => exact cz (Kd.bJ_ HR0.out HB.out)); (case side2 => exact HC0.out); rintro e w8 ⟨rfl, hb⟩; refine ⟨_, rfl, ?_⟩; replace BK101 := Aside0.mk (aA_ (kz BK101.out) hb); replace HB := Aside0.mk (ah_ (bq) hb); (try clear hb); obtain ⟨hcz9_0, hcz9_1, hcz9_2⟩ := cz3_ BK101.out; obtain ⟨hfz9_0, hfz9_1, hfz9_2⟩ := fz3_ BK101.out) | (go_at_call 20; (with_reducible refine (bx_.calls k a1_0 a1_1 a1_2 t103 _ A7.out).mono ?_); rintro e w10 ⟨rfl, hb⟩; replace BK101 := Aside0.mk (aA_ (kz BK101.out) hb); replace HB := Aside0.mk (ah_ (bq) hb); (try clear hb)))
  go_meet
  case rel => exact ⟨_, (!t103), (by first | rfl | (simp; done) | (simp [*]; done)), H', ⟨by first | omega | exact Nat.le_refl _⟩, ⟨by (with_reducible repeat (first | refine bh_ ?_ _ | refine aZ_ ?_ | refine aR_ ?_ _)); exact BK101.out⟩, ⟨bq⟩⟩
 case rest =>
  clear HC3
  obtain ⟨kq, x16_2, rfl, HA, HJ2, BK101, HB⟩ := hcut
  cases kq with
  | zero => exact absurd HA.out (by simp [aW_.j0])
  | succ kj2 =>
   have H := HA.out
   clear HA
   simp only [aW_.j0] at H
   by_cases c12 : x16_2 = true
   rotate_left
   ·replace c12 := Bool.eq_false_iff.mpr c12
    subst c12
    have H1 : ((br_.f l0).bind fun t104 => ((ap_.f kj2 l0 a1_0 a1_1 a1_2).bind fun bt107 => (if bt107.2 = true then (if 0 ≤ bt107.1 then (if bt107.1 < (t104.length : Int) then (some ((t104.set (bt107.1 : Int).toNat (⟨a1_0, a1_1, a1_2⟩ : S32)), 0)) else (none)) else (none)) else (if (l0.length : Int) = 32 then (some (([] : List (S32)), 5)) else ((bK_.f t104 bt107.1 (([(⟨a1_0, a1_1, a1_2⟩ : S32)] : List (S32)))).bind fun t113 => (some (t113, 0))))))) = some (r1, r2) := by rw [if_neg (show ¬ (false = true) by decide)] at H; exact H
    clear H
    have H := H1
    clear H1
    replace H := Option.bind_eq_some_iff.mp H
    obtain ⟨t104, A130, H⟩ := H
    (try dsimp only at H)
    have A13 := Aside0.mk A130
    clear A130
    replace H := Option.bind_eq_some_iff.mp H
    obtain ⟨⟨t107, t108⟩, A140, H⟩ := H
    (try dsimp only at H)
    have A14 := Aside0.mk A140
    clear A140
    have HC15 := Aside0.mk H
    clear H
    go_upto_if 30 with (first | ((with_reducible refine al_ (f := 52) rfl ?_); refine ba_ (some 18) rfl rfl Try.func52 (by kernel_rfl) rfl #[.slice A0 l0.length c0] rfl (by first | rfl | (simp only [lma_, lmc_, lmn_]; first | done | rfl)) ?_; (with_reducible refine (br_.calls _ _ l0 t104 _ ?side1 ?side2 A13.out).mono ?_); (case side1 => exact cz (Kd.bJ_ HR0.out HB.out)); (case side2 => exact HC0.out); rintro e w16 ⟨v105, rfl, ho0, hb⟩; refine ⟨_, rfl, ?_⟩; have HO106 := Aside0.mk (Kd.bp_ (Kd.R_newB ho0 (g := gb101) (o := .cells #[.string a1_0, .string a1_1, .string a1_2] 32 (0, 0)) (kz BK101.out)) (am_ (bq))); replace BK101 := Aside0.mk (aA_ (kz BK101.out) hb); replace HB := Aside0.mk (ah_ (bq) hb); (try clear hb); (try clear ho0); obtain ⟨hcz17_0, hcz17_1, hcz17_2⟩ := cz3_ BK101.out; obtain ⟨hfz17_0, hfz17_1, hfz17_2⟩ := fz3_ BK101.out) | ((with_reducible refine al_ (f := 49) rfl ?_); refine ba_ (some 22) rfl rfl Try.func49 (by kernel_rfl) rfl #[.slice A0 l0.length c0, .agg #[.string a1_0, .string a1_1, .string a1_2], .func (.func 47) #[] #[]] rfl (by first | rfl | (simp only [lma_, lmc_, lmn_]; first | done | rfl)) ?_; (with_reducible refine (ap_.calls kj2 _ _ l0 a1_0 a1_1 a1_2  t107 t108 _ ?side1 ?side2 A14.out).mono ?_); (case side1 => exact cz (Kd.bJ_ HR0.out HB.out)); (case side2 => exact HC0.out); rintro e w18 ⟨rfl, hb⟩; refine ⟨_, rfl, ?_⟩; replace HO106 := Aside0.mk (Kd.bQ_ (rz HO106.out) hb); replace BK101 := Aside0.mk (aA_ (kz BK101.out) hb); replace HB := Aside0.mk (ah_ (bq) hb); (try clear hb)))
    (try simp only [Act.put, lsa_, ls0_, ls1_])
    have H := HC15.out
    clear HC15
    by_cases c19 : t108 = true
    rotate_left
    ·replace c19 := Bool.eq_false_iff.mpr c19
     subst c19
     have H1 : (if (l0.length : Int) = 32 then (some (([] : List (S32)), 5)) else ((bK_.f t104 t107 (([(⟨a1_0, a1_1, a1_2⟩ : S32)] : List (S32)))).bind fun t113 => (some (t113, 0)))) = some (r1, r2) := by rw [if_neg (show ¬ (false = true) by decide)] at H; exact H
     clear H
     have H := H1
     clear H1
     by_cases c26 : (l0.length : Int) = 32
     rotate_left
     ·rw [if_neg c26] at H
      have c26b0 : ((l0.length : Int) == 32) = false := beq_eq_false_iff_ne.mpr c26
      have c26b1 : ((l0.length : Int) != 32) = true := bne_iff_ne.mpr c26
      obtain ⟨y110, hy110⟩ : ∃ y_ : List (S32), y_ = (([(⟨a1_0, a1_1, a1_2⟩ : S32)] : List (S32))) := ⟨_, rfl⟩
      replace H : ((bK_.f t104 t107 y110).bind fun t113 => (some (t113, 0))) = some (r1, r2) := by first | (rw [hy110]; with_reducible exact H) | (have H2_ := (Option.bind_some _ _).symm.trans H; rw [hy110]; with_reducible exact H2_) | (have H2_ := (Option.bind_some _ _).symm.trans H; with_reducible exact H2_) | with_reducible exact H | (rw [hy110]; exact H) | exact H
      have Ny110 := Aside0.mk hy110
      clear hy110
      replace H := Option.bind_eq_some_iff.mp H
      obtain ⟨t113, A270, H⟩ := H
      (try dsimp only at H)
      have A27 := Aside0.mk A270
      clear A270
      simp only [Option.some.injEq, Prod.mk.injEq] at H
      obtain ⟨rfl, rfl⟩ := H
      obtain ⟨hcz28_0, hcz28_1, hcz28_2⟩ := cz3_ BK101.out
      obtain ⟨hfz28_0, hfz28_1, hfz28_2⟩ := fz3_ BK101.out
      go_wp2_with (first | ((with_reducible refine aO_ (N := 28) rfl ?_); refine Kd.R_lit k32 _ 32 ?hg (N := 28) ?hd (xs := ([(⟨a1_0, a1_1, a1_2⟩ : S32)] : List (S32))) (inner := [.string a1_0, .string a1_1, .string a1_2]) (ok := fun _ => True) (okp := fun _ => True) ?hr ?hp (fun _ hk => hk) trivial (Below.refl _ _) (Nat.le_refl _) (by simp) ?_; (case hd => rfl); (case hg => rfl); (case hr => (go_simp; try rfl)); (case hp => exact (Reps.c3 (show Kd.M k32 _ _ _ (⟨a1_0, a1_1, a1_2⟩ : S32) [.string a1_0, .string a1_1, .string a1_2] from (cc_ _ _ _ (⟨a1_0, a1_1, a1_2⟩ : S32) )) (Reps.none _ _))); intro v111 w29 ho30 hb hg_ hnew_; clear hg_ hnew_; (first | rw [← Ny110.out] at ho30 | (simp only [Int.reduceToNat] at ho30; rw [← Ny110.out] at ho30)); have HO112 := Aside0.mk (Kd.bp_ (Kd.R_newB (Kd.bq_ ho30 (Kd.R_lt (rz HO106.out))) (g := gb101) (o := .cells #[.string a1_0, .string a1_1, .string a1_2] 32 (0, 0)) (kz BK101.out)) (am_ (bq))); replace HO106 := Aside0.mk (Kd.aK_ (rz HO106.out) (Kd.bn_ ho30) hb); replace BK101 := Aside0.mk (aA_ (kz BK101.out) hb); replace HB := Aside0.mk (ah_ (bq) hb); clear hb ho30; obtain ⟨Ao31, co31, eo31⟩ := Kd.bo_ HO106.out; subst eo31; obtain ⟨Ao32, co32, eo32⟩ := Kd.bo_ HO112.out; subst eo32) | ((with_reducible refine al_ (f := 54) rfl ?_); refine ba_ (some 29) rfl rfl Try.func54 (by kernel_rfl) rfl #[.slice Ao31 t104.length co31, .int .i64 t107, .slice Ao32 y110.length co32] rfl (by first | rfl | (simp only [lma_, lmc_, lmn_]; first | done | rfl)) ?_; (with_reducible refine (bK_.calls (fun k_ => some k_ = (.slice Ao31 t104.length co31 : Value).ownBlock) (.slice Ao31 t104.length co31) t104 t107 (fun k_ => some k_ = (.slice Ao32 y110.length co32 : Value).ownBlock) (.slice Ao32 y110.length co32) y110 t113 w _ ?side1 ?side2 ?side3 ?side4 ?side5 A27.out).mono ?_); (case side1 => repeat (first | (with_reducible first | exact HB.out | apply bA_ | apply bN_ | apply bD_ | refine ab_ ?_ GE101.out))); (case side2 => exact Kd.R_tight rfl HO106.out); (case side3 => exact fun k_ e_ => (HO106.out.1 k_ e_.symm).2); (case side4 => exact Kd.R_tight rfl HO112.out); (case side5 => exact fun k_ e_ => (HO112.out.1 k_ e_.symm).1.2); rintro e w33 ⟨v114, rfl, ho0, hb, hkp⟩; refine ⟨_, rfl, ?_⟩; have HO115 := Aside0.mk (Kd.aD_ (ok' := fun k_ => k_ ≠ gb101) ho0 (fun k_ hk_ => Or.elim hk_ (fun hs_ => Or.elim hs_ (fun hs_ => fun e_ => (Kd.cg_ HO106.out (fun _ hk => hk.1.2)) (by rw [← e_]; exact hs_)) (fun hs_ => fun e_ => (Kd.cg_ HO112.out (fun _ hk => hk.2)) (by rw [← e_]; exact hs_))) (fun hn_ => (Kd.cu_ (g := gb101) (o := .cells #[.string a1_0, .string a1_1, .string a1_2] 32 (0, 0)) (kz BK101.out) k_ hn_)))); replace BK101 := Aside0.mk (blk_kept (kz BK101.out) hkp (fun hs_ => Or.elim hs_ (fun e_ => (fun e_ => (Kd.cg_ HO106.out (fun _ hk => hk.1.2)) e_) e_) (fun e_ => (fun e_ => (Kd.cg_ HO112.out (fun _ hk => hk.2)) e_) e_))); replace HB := Aside0.mk (hb); clear HO106; clear HO112; (try clear hb); (try clear hkp); (try clear ho0)))
      go_ret2
      exact ⟨_, by first | rfl | (simp [*, ay_, az_] <;> rfl), rz (Kd.aD_ HO115.out (fun _ hk => trivial)), bq⟩
     rw [if_pos c26] at H
     have c26b0 : ((l0.length : Int) == 32) = true := beq_iff_eq.mpr c26
     have c26b1 : ((l0.length : Int) != 32) = false := bne_eq_false_iff_eq.mpr c26
     clear c26
     simp only [Option.some.injEq, Prod.mk.injEq] at H
     obtain ⟨rfl, rfl⟩ := H
     go_wp2
     go_ret2
     exact ⟨_, by first | rfl | (simp [*, ay_, az_] <;> rfl), by first | exact Kd.R_nil _ _ _ _ _ | exact Kd.N_nil _ _ _ _ _ | exact Kd.V_nil _ _ _ _ _ | exact Kd.Q_nil _ _ _ _ _ | exact Kd.S_nil _ _ _ _ _, bq⟩
    subst c19
    have H1 : (if 0 ≤ t107 then (if t107 < (t104.length : Int) then (some ((t104.set (t107 : Int).toNat (⟨a1_0, a1_1, a1_2⟩ : S32)), 0)) else (none)) else (none)) = some (r1, r2) := by rw [if_pos rfl] at H; exact H
    clear H
    have H := H1
    clear H1
    by_cases c20 : 0 ≤ t107
    rotate_left
    ·rw [if_neg c20] at H
     exact absurd H (by simp)
    rw [if_pos c20] at H
    have c20b0 : decide (0 ≤ t107) = true := decide_eq_true c20
    clear c20
    (first | rw [c20b0] | (simp only [i64_w, i32_w]; rw [c20b0]) | (simp only [c20b1, Bool.not_true, Bool.not_false]) | (simp only [c20b0, Bool.not_true, Bool.not_false]) | skip)
    by_cases c21 : t107 < (t104.length : Int)
    rotate_left
    ·rw [if_neg c21] at H
     exact absurd H (by simp)
    rw [if_pos c21] at H
    have c21b0 : decide (t107 < (t104.length : Int)) = true := decide_eq_true c21
    clear c21
    obtain ⟨y109, hy109⟩ : ∃ y_ : List (S32), y_ = (t104.set (t107 : Int).toNat (⟨a1_0, a1_1, a1_2⟩ : S32)) := ⟨_, rfl⟩
    replace H : (some (y109, 0)) = some (r1, r2) := by first | (rw [hy109]; with_reducible exact H) | (have H2_ := (Option.bind_some _ _).symm.trans H; rw [hy109]; with_reducible exact H2_) | (have H2_ := (Option.bind_some _ _).symm.trans H; with_reducible exact H2_) | with_reducible exact H | (rw [hy109]; exact H) | exact H
    have Ny109 := Aside0.mk hy109
    clear hy109
    simp only [Option.some.injEq, Prod.mk.injEq] at H
    obtain ⟨rfl, rfl⟩ := H
    obtain ⟨hcz23_0, hcz23_1, hcz23_2⟩ := cz3_ BK101.out
    obtain ⟨hfz23_0, hfz23_1, hfz23_2⟩ := fz3_ BK101.out
    have p22 : 0 ≤ (t107 : Int) := of_decide_eq_true (by assumption)
    have q22 : (t107 : Int) < ((t104.length : Int) : Int) := of_decide_eq_true (by assumption)
    obtain ⟨go22, co22, eo22, gb22, gl22, cl22, HG22⟩ := Kd.R_form HO106.out (by omega)
    (first | cases eo22 | (injection eo22 with ea_ en_ ec_; (first | subst ea_ | (injection ea_ with ea_; subst ea_)); subst ec_; clear en_))
    have GB22 := Aside0.mk gb22
    have GG22 := Aside0.mk HG22
    clear gb22 gl22 HG22
    obtain ⟨ce22, hcl22, hM22, hcc22, hfr22⟩ := Kd.R_elem HO106.out z32 (t107 : Int) p22 q22
    obtain rfl := k32_openM hM22
    have hx22_0 : w18.cell? ⟨go22, (t107 : Int).toNat * 3, none⟩ = some (.string ((aa_ t104 t107).f0)) := hcc22 0 _ rfl
    have hx22_1 : w18.cell? ⟨go22, (t107 : Int).toNat * 3 + 1, none⟩ = some (.string ((aa_ t104 t107).f1)) := hcc22 1 _ rfl
    have hx22_2 : w18.cell? ⟨go22, (t107 : Int).toNat * 3 + 2, none⟩ = some (.string ((aa_ t104 t107).f2)) := hcc22 2 _ rfl
    have hf22_0 : w18.frozen? ⟨go22, (t107 : Int).toNat * 3, none⟩ = false := hfr22 0
    have hf22_1 : w18.frozen? ⟨go22, (t107 : Int).toNat * 3 + 1, none⟩ = false := hfr22 1
    have hf22_2 : w18.frozen? ⟨go22, (t107 : Int).toNat * 3 + 2, none⟩ = false := hfr22 2
    clear hcl22 hcc22 hfr22 hM22
    replace p22 := eq_true p22
    replace q22 := eq_true q22
    have n_ := Aside0.mk (Kd.aD_ (ok' := (fun k_ => k_ ≠ gb101)) HO106.out (fun k_ hk => hk.2))
    clear HO106
    have HO106 := n_
    clear n_
    have HX24 := Aside0.mk (show Kd.R k32 32 w18 w.heap.size (fun k_ => k_ ≠ gb101) (.slice (some ⟨go22, 0, none⟩) t104.length co22) t104 from (rz HO106.out))
    obtain ⟨ce24, hcl24, hM24, hcc24, hfr24⟩ := Kd.R_elem HX24.out z32 (t107 : Int) (of_decide_eq_true (by assumption)) (by have h_ : (t107 : Int) < ((t104.length : Int) : Int) := of_decide_eq_true (by assumption); first | exact h_ | (have e_ := (Kd.av_ HO106.out).1; omega) | simpa using h_)
    obtain rfl := k32_openM hM24
    have HP24 := Kd.R_seg HX24.out (t107 : Int) (of_decide_eq_true (by assumption)) (by have h_ : (t107 : Int) < ((t104.length : Int) : Int) := of_decide_eq_true (by assumption); first | exact h_ | (have e_ := (Kd.av_ HO106.out).1; omega) | simpa using h_) (seg := [.string a1_0, .string a1_1, .string a1_2]) (j := 0) hcl24 hcc24 (show 3 ≤ 3 from by decide) (x' := (⟨a1_0, a1_1, a1_2⟩ : S32)) (cc_ _ _ _ (⟨a1_0, a1_1, a1_2⟩ : S32) ) (fun _ hk => hk)
    have hx24_0 := hcc24 0 _ rfl
    (try simp only [show (k32).sz = 3 from rfl, Nat.mul_one, Nat.add_zero] at hx24_0)
    have hf24_0 := hfr24 0
    (try simp only [show (k32).sz = 3 from rfl, Nat.mul_one, Nat.add_zero] at hf24_0)
    have hx24_1 := hcc24 1 _ rfl
    (try simp only [show (k32).sz = 3 from rfl, Nat.mul_one, Nat.add_zero] at hx24_1)
    have hf24_1 := hfr24 1
    (try simp only [show (k32).sz = 3 from rfl, Nat.mul_one, Nat.add_zero] at hf24_1)
    have hx24_2 := hcc24 2 _ rfl
    (try simp only [show (k32).sz = 3 from rfl, Nat.mul_one, Nat.add_zero] at hx24_2)
    have hf24_2 := hfr24 2
    (try simp only [show (k32).sz = 3 from rfl, Nat.mul_one, Nat.add_zero] at hf24_2)
    clear hcl24 hcc24 hfr24 hM24
    go_wp2_with (first | ((with_reducible refine gate_store (t := 32) (p := 35) rfl ?_); refine store_event (t := 32) (p := 35) (v := ?vo_w25) (w1 := (((w18.setCell ⟨go22, (t107 : Int).toNat * 3, none⟩ (.string a1_0)).setCell ⟨go22, (t107 : Int).toNat * 3 + 1, none⟩ (.string a1_1)).setCell ⟨go22, (t107 : Int).toNat * 3 + 2, none⟩ (.string a1_2))) ?hg ?ho ?hn ?hr ?_; (case ho => rfl); (case hg => rfl); (case hn => rfl); (case hr => (go_simp; try rfl)); intro w25 hw; have hg : w18.grownBy w25 (some go22) := (by rw [hw]; exact HP24.2); have hp_ : Kd.R k32 32 w25 w.heap.size (fun k_ => k_ ≠ gb101) (.slice (some ⟨go22, 0, none⟩) t104.length co22) y109 := (by rw [hw, Ny109.out]; exact HP24.1); clear HP24; replace BK101 := Aside0.mk (bF_ (g := gb101) (o := .cells #[.string a1_0, .string a1_1, .string a1_2] 32 (0, 0)) (kz BK101.out) hg (Kd.cg_ HO106.out (fun _ hk => hk))); replace HO106 := Aside0.mk (hp_); replace HB := Aside0.mk ((by rw [hw]; exact ab_ (ab_ (ab_ (HB.out) GB22.out) GB22.out) GB22.out : Below w.heap.size w w25)); clear hg hw hp_))
    go_ret2
    exact ⟨_, by first | rfl | (simp [*, ay_, az_] <;> rfl), rz (Kd.aD_ HO106.out (fun _ hk => trivial)), bq⟩
   subst c12
   have H1 : (some (([] : List (S32)), 1)) = some (r1, r2) := by rw [if_pos rfl] at H; exact H
   clear H
   have H := H1
   clear H1
   simp only [Option.some.injEq, Prod.mk.injEq] at H
   obtain ⟨rfl, rfl⟩ := H
   go_wp2
   go_ret2
   exact ⟨_, by first | rfl | (simp [*, ay_, az_] <;> rfl), by first | exact Kd.R_nil _ _ _ _ _ | exact Kd.N_nil _ _ _ _ _ | exact Kd.V_nil _ _ _ _ _ | exact Kd.Q_nil _ _ _ _ _ | exact Kd.S_nil _ _ _ _ _, bq⟩
mutual
def aq_.j0 : Nat → List (S32) → List (S32) → Bool → Option ((List (S32)) × Int)
 | 0, _, _, _ => none
 | k + 1, x0, x1, x18 => if x18 = true then (some (([] : List (S32)), 1)) else ((br_.f x1).bind fun t103 => (aq_.l0 k t103 x0 (x0.length : Int) 0))
def aq_.l0 : Nat → List (S32) → List (S32) → Int → Int → Option ((List (S32)) × Int)
 | 0, _, _, _, _ => none
 | k + 1, x6, x21, x22, x23 => if x23 < x22 then (if 0 ≤ x23 then (if x23 < (x21.length : Int) then ((ap_.f k x6 ((aa_ x21 x23).f0) ((aa_ x21 x23).f1) ((aa_ x21 x23).f2)).bind fun bt108 => (if bt108.2 = true then (aq_.l0 k x6 x21 x22 (wrap64 (x23 + 1))) else ((bK_.f x6 bt108.1 (([(⟨(aa_ x21 x23).f0, (aa_ x21 x23).f1, (aa_ x21 x23).f2⟩ : S32)] : List (S32)))).bind fun t113 => (aq_.l0 k t113 x21 x22 (wrap64 (x23 + 1)))))) else (none)) else (none)) else (if (x6.length : Int) > 32 then (some (([] : List (S32)), 5)) else (some (x6, 0)))
end
def aq_.f (k : Nat) (l0 : List (S32)) (l1 : List (S32)) : Option ((List (S32)) × Int) := (aj_.f k l0).bind fun t101 => (if t101 = true then ((aj_.f k l1).bind fun t102 => (aq_.j0 k l0 l1 (!t102))) else (aq_.j0 k l0 l1 true))
set_option maxHeartbeats 8000000 in
set_option maxRecDepth 100000 in
theorem aq_.calls (k : Nat) (A0 : Option Addr) (c0 : Nat) (l0 : List (S32)) (A1 : Option Addr) (c1 : Nat) (l1 : List (S32)) (r1 : List (S32)) (r2 : Int) (w : World) (hr0 : Kd.C k32 w A0 l0.length l0) (hc0 : l0.length ≤ c0) (hr1 : Kd.C k32 w A1 l1.length l1) (hc1 : l1.length ≤ c1) (h : aq_.f k l0 l1 = some (r1, r2)) :
  Calls Try.prog 37 #[.slice A0 l0.length c0, .slice A1 l1.length c1] w fun e w' => ∃ v0_ : Value, e = .returned (.tuple #[v0_, .int .i64 r2]) ∧ Kd.R k32 32 w' w.heap.size (fun _ => True) v0_ r1 ∧ Below w.heap.size w w' := by
 have hu32 := Try.underlying32
 have HR0 := Aside0.mk hr0
 have HC0 := Aside0.mk hc0
 clear hr0 hc0
 have HR1 := Aside0.mk hr1
 have HC1 := Aside0.mk hc1
 clear hr1 hc1
 have HB := Aside0.mk (Below.refl w.heap.size w)
 have H : ((aj_.f k l0).bind fun t101 => (if t101 = true then ((aj_.f k l1).bind fun t102 => (aq_.j0 k l0 l1 (!t102))) else (aq_.j0 k l0 l1 true))) = some (r1, r2) := h
 clear h
 have HC3 := Aside0.mk H
 clear H
 go_enter Try.func37, Try.ntmps37
 go_upto_region 1 with (fail)
 go_cut [18] (fun v18 wc => ∃ (kq : Nat) (x18_2 : Bool), v18 = .bool x18_2 ∧ Aside0 (aq_.j0 kq l0 l1 x18_2 = some (r1, r2)) ∧ Aside0 (kq ≤ k) ∧ Aside0 (Below w.heap.size w wc))
 case first =>
  have H := HC3.out
  clear HC3
  replace H := Option.bind_eq_some_iff.mp H
  obtain ⟨t101, A40, H⟩ := H
  (try dsimp only at H)
  have A4 := Aside0.mk A40
  clear A40
  by_cases c5 : t101 = true
  rotate_left
  ·replace c5 := Bool.eq_false_iff.mpr c5
   subst c5
   have H1 : (aq_.j0 k l0 l1 true) = some (r1, r2) := by rw [if_neg (show ¬ (false = true) by decide)] at H; exact H
   clear H
   have H := H1
   clear H1
   have H' := Aside0.mk H
   clear H
   go_wp2_with (first | ((with_reducible refine al_ (f := 22) rfl ?_); refine ba_ (some 12) rfl rfl Try.func22 (by kernel_rfl) rfl #[.slice A0 l0.length c0] rfl (by first | rfl | (simp only [lma_, lmc_, lmn_]; first | done | rfl)) ?_; (with_reducible refine (aj_.calls k _ _ l0 false _ ?side1 ?side2 A4.out).mono ?_); (case side1 => exact cz (Kd.bJ_ HR0.out HB.out)); (case side2 => exact HC0.out); rintro e w9 ⟨rfl, hb⟩; refine ⟨_, rfl, ?_⟩; replace HB := Aside0.mk (ah_ (bz HB.out) hb); (try clear hb)))
   go_meet
   case rel => exact ⟨_, (true), (by first | rfl | (simp; done) | (simp [*]; done)), H', ⟨by first | omega | exact Nat.le_refl _⟩, ⟨bz HB.out⟩⟩
  subst c5
  have H1 : ((aj_.f k l1).bind fun t102 => (aq_.j0 k l0 l1 (!t102))) = some (r1, r2) := by rw [if_pos rfl] at H; exact H
  clear H
  have H := H1
  clear H1
  replace H := Option.bind_eq_some_iff.mp H
  obtain ⟨t102, A60, H⟩ := H
  (try dsimp only at H)
  have A6 := Aside0.mk A60
  clear A60
  have H' := Aside0.mk H
  clear H
  go_wp2_with (first | ((with_reducible refine al_ (f := 22) rfl ?_); refine ba_ (some 12) rfl rfl Try.func22 (by kernel_rfl) rfl #[.slice A0 l0.length c0] rfl (by first | rfl | (simp only [lma_, lmc_, lmn_]; first | done | rfl)) ?_; (with_reducible refine (aj_.calls k _ _ l0 true _ ?side1 ?side2 A4.out).mono ?_); (case side1 => exact cz (Kd.bJ_ HR0.out HB.out)); (case side2 => exact HC0.out); rintro e w7 ⟨rfl, hb⟩; refine ⟨_, rfl, ?_⟩; replace HB := Aside0.mk (ah_ (bz HB.out) hb); (try clear hb)) | (go_at_call 22; (with_reducible refine (aj_.calls k _ _ l1 t102 _ ?side1 ?side2 A6.out).mono ?_); (case side1 => exact cz (Kd.bJ_ HR1.out HB.out)); (case side2 => exact HC1.out); rintro e w8 ⟨rfl, hb⟩; replace HB := Aside0.mk (ah_ (bz HB.out) hb); (try clear hb)))
  go_meet
  case rel => exact ⟨_, (!t102), (by first | rfl | (simp; done) | (simp [*]; done)), H', ⟨by first | omega | exact Nat.le_refl _⟩, ⟨bz HB.out⟩⟩
 case rest =>
  clear HC3
  obtain ⟨kq, x18_2, rfl, HA, HJ2, HB⟩ := hcut
  cases kq with
  | zero => exact absurd HA.out (by simp [aq_.j0])
  | succ kj2 =>
   have H := HA.out
   clear HA
   simp only [aq_.j0] at H
   by_cases c10 : x18_2 = true
   rotate_left
   ·replace c10 := Bool.eq_false_iff.mpr c10
    subst c10
    have H1 : ((br_.f l1).bind fun t103 => (aq_.l0 kj2 t103 l0 (l0.length : Int) 0)) = some (r1, r2) := by rw [if_neg (show ¬ (false = true) by decide)] at H; exact H
    clear H
    have H := H1
    clear H1
    replace H := Option.bind_eq_some_iff.mp H
    obtain ⟨t103, A110, H⟩ := H
    (try dsimp only at H)
    have A11 := Aside0.mk A110
    clear A110
    have H' := Aside0.mk H
    clear H
    go_wp2_with (first | ((with_reducible refine al_ (f := 52) rfl ?_); refine ba_ (some 20) rfl rfl Try.func52 (by kernel_rfl) rfl #[.slice A1 l1.length c1] rfl (by first | rfl | (simp only [lma_, lmc_, lmn_]; first | done | rfl)) ?_; (with_reducible refine (br_.calls _ _ l1 t103 _ ?side1 ?side2 A11.out).mono ?_); (case side1 => exact cz (Kd.bJ_ HR1.out HB.out)); (case side2 => exact HC1.out); rintro e w12 ⟨v104, rfl, ho0, hb⟩; refine ⟨_, rfl, ?_⟩; have HO105 := Aside0.mk (Kd.bp_ ho0 (am_ (bz HB.out))); replace HB := Aside0.mk (ah_ (bz HB.out) hb); (try clear hb); (try clear ho0)))
    (try simp only [Act.put, lsa_, ls0_, ls1_])
    go_loopg [6, 23] kj2 (fun kq v6 v23 w' => ∃ (x6_2 : List (S32)) (x23_2 : Int), v23 = .int .i64 x23_2 ∧ Aside0 (aq_.l0 kq x6_2 l0 (l0.length : Int) x23_2 = some (r1, r2)) ∧ Aside0 (kq ≤ kj2) ∧ Aside0 (Kd.R k32 32 w' w.heap.size (fun _ => True) v6 x6_2) ∧ Aside0 (Below w.heap.size w w'))
    case atStart => exact ⟨(t103), (0), (by first | rfl | (simp; done) | (simp [*]; done)), H', ⟨Nat.le_refl _⟩, ⟨rz HO105.out⟩, ⟨bz HB.out⟩⟩
    case round =>
     clear H'
     obtain ⟨x6_2, x23_2, rfl, HA, HK2, HO_6, HB⟩ := hrel
     cases gk with
     | zero => exact absurd HA.out (by simp [aq_.l0])
     | succ k2 =>
      have H := HA.out
      clear HA
      simp only [aq_.l0] at H
      by_cases c13 : x23_2 < (l0.length : Int)
      rotate_left
      ·rw [if_neg c13] at H
       have c13b0 : decide (x23_2 < (l0.length : Int)) = false := decide_eq_false c13
       clear c13
       by_cases c29 : (x6_2.length : Int) > 32
       rotate_left
       ·rw [if_neg c29] at H
        have c29b0 : decide (32 < (x6_2.length : Int)) = false := decide_eq_false c29
        have c29b1 : decide (32 < x6_2.length) = false := decide_eq_false (by omega)
        clear c29
        simp only [Option.some.injEq, Prod.mk.injEq] at H
        obtain ⟨rfl, rfl⟩ := H
        obtain ⟨Ao31, co31, eo31⟩ := Kd.bo_ HO_6.out
        subst eo31
        go_wp2
        go_ret2
        exact ⟨_, by first | rfl | (simp [*, ay_, az_] <;> rfl), rz HO_6.out, bz HB.out⟩
       rw [if_pos c29] at H
       have c29b0 : decide (32 < (x6_2.length : Int)) = true := decide_eq_true c29
       have c29b1 : decide (32 < x6_2.length) = true := decide_eq_true (by omega)
       clear c29
       simp only [Option.some.injEq, Prod.mk.injEq] at H
       obtain ⟨rfl, rfl⟩ := H
       obtain ⟨Ao30, co30, eo30⟩ := Kd.bo_ HO_6.out
       subst eo30
       go_wp2
       go_ret2
       exact ⟨_, by first | rfl | (simp [*, ay_, az_] <;> rfl), by first | exact Kd.R_nil _ _ _ _ _ | exact Kd.N_nil _ _ _ _ _ | exact Kd.V_nil _ _ _ _ _ | exact Kd.Q_nil _ _ _ _ _ | exact Kd.S_nil _ _ _ _ _, bz HB.out⟩
      rw [if_pos c13] at H
      have c13b0 : decide (x23_2 < (l0.length : Int)) = true := decide_eq_true c13
      clear c13
      by_cases c14 : 0 ≤ x23_2
      rotate_left
      ·rw [if_neg c14] at H
       exact absurd H (by simp)
      rw [if_pos c14] at H
      have c14b0 : decide (0 ≤ x23_2) = true := decide_eq_true c14
      clear c14
      by_cases c15 : x23_2 < (l0.length : Int)
      rotate_left
      ·rw [if_neg c15] at H
       exact absurd H (by simp)
      rw [if_pos c15] at H
      have c15b0 : decide (x23_2 < (l0.length : Int)) = true := decide_eq_true c15
      clear c15
      replace H := Option.bind_eq_some_iff.mp H
      obtain ⟨⟨t108, t109⟩, A160, H⟩ := H
      (try dsimp only at H)
      have A16 := Aside0.mk A160
      clear A160
      have HC17 := Aside0.mk H
      clear H
      have p106 : 0 ≤ (x23_2 : Int) := of_decide_eq_true (by assumption)
      have q106 : x23_2 < (l0.length : Int) := of_decide_eq_true (by assumption)
      obtain ⟨ad106, e106, hx106_0, hx106_1, hx106_2⟩ := bf_ HR0.out x23_2 p106 q106
      cases e106
      replace hx106_0 := bu_ HB.out hx106_0
      replace hx106_1 := bu_ HB.out hx106_1
      replace hx106_2 := bu_ HB.out hx106_2
      replace p106 := eq_true p106
      replace q106 := eq_true q106
      go_upto_if 34 with (first | ((with_reducible refine aO_ (N := 8) rfl ?_); refine bB_ ?hg (N := 8) ?hd (cs := #[.string (⟨#[]⟩ : ByteArray), .string (⟨#[]⟩ : ByteArray), .string (⟨#[]⟩ : ByteArray)]) (t := 32) ?hr ?_; (case hd => rfl); (case hg => rfl); (case hr => (go_simp; try rfl)); intro gb107 hg w18 hbox hb; replace HO_6 := Aside0.mk (Kd.bQ_ (Kd.R_elderB (rz HO_6.out) gb107 (Nat.le_of_eq hg.symm)) hb); have BK107 := Aside0.mk (hbox); have GW107 := Aside0.mk ((by rw [hg]; exact (am_ (bz HB.out)) : w.heap.size ≤ gb107)); have GE107 := GW107; replace HB := Aside0.mk (ah_ (bz HB.out) hb); clear hb hbox hg; obtain ⟨hcz19_0, hcz19_1, hcz19_2⟩ := cz3_ BK107.out; obtain ⟨hfz19_0, hfz19_1, hfz19_2⟩ := fz3_ BK107.out; obtain ⟨Ao20, co20, eo20⟩ := Kd.bo_ HO_6.out; subst eo20) | ((with_reducible refine al_ (f := 49) rfl ?_); refine ba_ (some 30) rfl rfl Try.func49 (by kernel_rfl) rfl #[.slice Ao20 x6_2.length co20, .agg #[.string ((aa_ l0 x23_2).f0), .string ((aa_ l0 x23_2).f1), .string ((aa_ l0 x23_2).f2)], .func (.func 47) #[] #[]] rfl (by first | rfl | (simp only [lma_, lmc_, lmn_]; first | done | rfl)) ?_; (with_reducible refine (ap_.calls k2 _ _ x6_2 ((aa_ l0 x23_2).f0) ((aa_ l0 x23_2).f1) ((aa_ l0 x23_2).f2)  t108 t109 _ ?side1 ?side2 A16.out).mono ?_); (case side1 => refine (Kd.av_ (e := 32) (base := w.heap.size) (ok := fun k_ => (True ∧ k_ ≠ gb107)) (n := x6_2.length) (c := co20) ?_).2.2; exact (rz (Kd.aD_ (Kd.R_far (p := ⟨gb107, 2, none⟩) (Kd.R_far (p := ⟨gb107, 1, none⟩) (Kd.R_far (p := ⟨gb107, 0, none⟩) (Kd.aD_ HO_6.out (fun k_ hk => (⟨hk, hk.2⟩ : _ ∧ k_ ≠ gb107))) (fun _ hk => hk.2) (.string ((aa_ l0 x23_2).f0))) (fun _ hk => hk.2) (.string ((aa_ l0 x23_2).f1))) (fun _ hk => hk.2) (.string ((aa_ l0 x23_2).f2))) (fun _ h_ => h_.1)))); (case side2 => exact (Kd.av_ HO_6.out).2.1); rintro e w21 ⟨rfl, hb⟩; refine ⟨_, rfl, ?_⟩; replace HO_6 := Aside0.mk (Kd.bQ_ (rz (Kd.aD_ (Kd.R_far (p := ⟨gb107, 2, none⟩) (Kd.R_far (p := ⟨gb107, 1, none⟩) (Kd.R_far (p := ⟨gb107, 0, none⟩) (Kd.aD_ HO_6.out (fun k_ hk => (⟨hk, hk.2⟩ : _ ∧ k_ ≠ gb107))) (fun _ hk => hk.2) (.string ((aa_ l0 x23_2).f0))) (fun _ hk => hk.2) (.string ((aa_ l0 x23_2).f1))) (fun _ hk => hk.2) (.string ((aa_ l0 x23_2).f2))) (fun _ h_ => h_.1))) hb); replace BK107 := Aside0.mk (aA_ (g := gb107) (o := .cells #[.string ((aa_ l0 x23_2).f0), .string ((aa_ l0 x23_2).f1), .string ((aa_ l0 x23_2).f2)] 32 (0, 0)) (by exact kj3_2 (kj3_1 (kj3_0 (kz BK107.out)))) hb); replace HB := Aside0.mk (ah_ (bq) hb); (try clear hb)))
      (try simp only [Act.put, lsa_, ls0_, ls1_])
      have H := HC17.out
      clear HC17
      by_cases c22 : t109 = true
      rotate_left
      ·replace c22 := Bool.eq_false_iff.mpr c22
       subst c22
       have H1 : ((bK_.f x6_2 t108 (([(⟨(aa_ l0 x23_2).f0, (aa_ l0 x23_2).f1, (aa_ l0 x23_2).f2⟩ : S32)] : List (S32)))).bind fun t113 => (aq_.l0 k2 t113 l0 (l0.length : Int) (wrap64 (x23_2 + 1)))) = some (r1, r2) := by rw [if_neg (show ¬ (false = true) by decide)] at H; exact H
       clear H
       have H := H1
       clear H1
       obtain ⟨y110, hy110⟩ : ∃ y_ : List (S32), y_ = (([(⟨(aa_ l0 x23_2).f0, (aa_ l0 x23_2).f1, (aa_ l0 x23_2).f2⟩ : S32)] : List (S32))) := ⟨_, rfl⟩
       replace H : ((bK_.f x6_2 t108 y110).bind fun t113 => (aq_.l0 k2 t113 l0 (l0.length : Int) (wrap64 (x23_2 + 1)))) = some (r1, r2) := by first | (rw [hy110]; with_reducible exact H) | (have H2_ := (Option.bind_some _ _).symm.trans H; rw [hy110]; with_reducible exact H2_) | (have H2_ := (Option.bind_some _ _).symm.trans H; with_reducible exact H2_) | with_reducible exact H | (rw [hy110]; exact H) | exact H
       have Ny110 := Aside0.mk hy110
       clear hy110
       replace H := Option.bind_eq_some_iff.mp H
       obtain ⟨t113, A230, H⟩ := H
       (try dsimp only at H)
       have A23 := Aside0.mk A230
       clear A230
       have H' := Aside0.mk H
       clear H
       obtain ⟨hcz24_0, hcz24_1, hcz24_2⟩ := cz3_ BK107.out
       obtain ⟨hfz24_0, hfz24_1, hfz24_2⟩ := fz3_ BK107.out
       go_wp2_with (first | ((with_reducible refine aO_ (N := 38) rfl ?_); refine Kd.R_lit k32 _ 32 ?hg (N := 38) ?hd (xs := ([(⟨(aa_ l0 x23_2).f0, (aa_ l0 x23_2).f1, (aa_ l0 x23_2).f2⟩ : S32)] : List (S32))) (inner := [.string ((aa_ l0 x23_2).f0), .string ((aa_ l0 x23_2).f1), .string ((aa_ l0 x23_2).f2)]) (ok := fun _ => True) (okp := fun _ => True) ?hr ?hp (fun _ hk => hk) trivial (Below.refl _ _) (Nat.le_refl _) (by simp) ?_; (case hd => rfl); (case hg => rfl); (case hr => (go_simp; try rfl)); (case hp => exact (Reps.c3 (show Kd.M k32 _ _ _ (⟨(aa_ l0 x23_2).f0, (aa_ l0 x23_2).f1, (aa_ l0 x23_2).f2⟩ : S32) [.string ((aa_ l0 x23_2).f0), .string ((aa_ l0 x23_2).f1), .string ((aa_ l0 x23_2).f2)] from (cc_ _ _ _ (⟨(aa_ l0 x23_2).f0, (aa_ l0 x23_2).f1, (aa_ l0 x23_2).f2⟩ : S32) )) (Reps.none _ _))); intro v111 w25 ho26 hb hg_ hnew_; clear hg_ hnew_; (first | rw [← Ny110.out] at ho26 | (simp only [Int.reduceToNat] at ho26; rw [← Ny110.out] at ho26)); have HO112 := Aside0.mk (Kd.bp_ (Kd.R_newB (Kd.bq_ ho26 (Kd.R_lt (rz HO_6.out))) (g := gb107) (o := .cells #[.string ((aa_ l0 x23_2).f0), .string ((aa_ l0 x23_2).f1), .string ((aa_ l0 x23_2).f2)] 32 (0, 0)) (kz BK107.out)) (am_ (bq))); replace HO_6 := Aside0.mk (Kd.aK_ (rz HO_6.out) (Kd.bn_ ho26) hb); replace BK107 := Aside0.mk (aA_ (kz BK107.out) hb); replace HB := Aside0.mk (ah_ (bq) hb); clear hb ho26; obtain ⟨Ao27, co27, eo27⟩ := Kd.bo_ HO112.out; subst eo27) | ((with_reducible refine al_ (f := 54) rfl ?_); refine ba_ (some 39) rfl rfl Try.func54 (by kernel_rfl) rfl #[.slice Ao20 x6_2.length co20, .int .i64 t108, .slice Ao27 y110.length co27] rfl (by first | rfl | (simp only [lma_, lmc_, lmn_]; first | done | rfl)) ?_; (with_reducible refine (bK_.calls (fun k_ => some k_ = (.slice Ao20 x6_2.length co20 : Value).ownBlock) (.slice Ao20 x6_2.length co20) x6_2 t108 (fun k_ => some k_ = (.slice Ao27 y110.length co27 : Value).ownBlock) (.slice Ao27 y110.length co27) y110 t113 w _ ?side1 ?side2 ?side3 ?side4 ?side5 A23.out).mono ?_); (case side1 => repeat (first | (with_reducible first | exact HB.out | apply bA_ | apply bN_ | apply bD_ | refine ab_ ?_ GE107.out))); (case side2 => exact Kd.R_tight rfl HO_6.out); (case side3 => exact fun k_ e_ => (HO_6.out.1 k_ e_.symm).2); (case side4 => exact Kd.R_tight rfl HO112.out); (case side5 => exact fun k_ e_ => (HO112.out.1 k_ e_.symm).1.2); rintro e w28 ⟨v114, rfl, ho0, hb, hkp⟩; refine ⟨_, rfl, ?_⟩; have HO115 := Aside0.mk (Kd.aD_ (ok' := fun k_ => k_ ≠ gb107) ho0 (fun k_ hk_ => Or.elim hk_ (fun hs_ => Or.elim hs_ (fun hs_ => fun e_ => (Kd.cg_ HO_6.out (fun _ hk => hk.1.2)) (by rw [← e_]; exact hs_)) (fun hs_ => fun e_ => (Kd.cg_ HO112.out (fun _ hk => hk.2)) (by rw [← e_]; exact hs_))) (fun hn_ => (Kd.cu_ (g := gb107) (o := .cells #[.string ((aa_ l0 x23_2).f0), .string ((aa_ l0 x23_2).f1), .string ((aa_ l0 x23_2).f2)] 32 (0, 0)) (kz BK107.out) k_ hn_)))); replace BK107 := Aside0.mk (blk_kept (kz BK107.out) hkp (fun hs_ => Or.elim hs_ (fun e_ => (fun e_ => (Kd.cg_ HO_6.out (fun _ hk => hk.1.2)) e_) e_) (fun e_ => (fun e_ => (Kd.cg_ HO112.out (fun _ hk => hk.2)) e_) e_))); replace HB := Aside0.mk (hb); clear HO112; clear HO_6; (try clear hb); (try clear hkp); (try clear ho0)))
       go_roundg k2
       case measure => have := HJ2.out; have := HK2.out; omega
       case rel => exact ⟨(t113), (wrap64 (x23_2 + 1)), (by first | rfl | (simp; done) | (simp [*]; done)), H', ⟨by have := HJ2.out; have := HK2.out; omega⟩, ⟨rz (Kd.aD_ HO115.out (fun _ hk => trivial))⟩, ⟨bq⟩⟩
      subst c22
      have H1 : (aq_.l0 k2 x6_2 l0 (l0.length : Int) (wrap64 (x23_2 + 1))) = some (r1, r2) := by rw [if_pos rfl] at H; exact H
      clear H
      have H := H1
      clear H1
      have H' := Aside0.mk H
      clear H
      go_wp2
      go_roundg k2
      case measure => have := HJ2.out; have := HK2.out; omega
      case rel => exact ⟨(x6_2), (wrap64 (x23_2 + 1)), (by first | rfl | (simp; done) | (simp [*]; done)), H', ⟨by have := HJ2.out; have := HK2.out; omega⟩, ⟨rz (Kd.aD_ HO_6.out (fun _ hk => trivial))⟩, ⟨bq⟩⟩
   subst c10
   have H1 : (some (([] : List (S32)), 1)) = some (r1, r2) := by rw [if_pos rfl] at H; exact H
   clear H
   have H := H1
   clear H1
   simp only [Option.some.injEq, Prod.mk.injEq] at H
   obtain ⟨rfl, rfl⟩ := H
   go_wp2
   go_ret2
   exact ⟨_, by first | rfl | (simp [*, ay_, az_] <;> rfl), by first | exact Kd.R_nil _ _ _ _ _ | exact Kd.N_nil _ _ _ _ _ | exact Kd.V_nil _ _ _ _ _ | exact Kd.Q_nil _ _ _ _ _ | exact Kd.S_nil _ _ _ _ _, bz HB.out⟩
def cx_.f (l0 : List Int) (l1 : List Int) : Option (Bool) := if (l0.length : Int) > 1048576 then (some true) else (some (decide ((l1.length : Int) > 1048576)))
set_option maxHeartbeats 8000000 in
set_option maxRecDepth 100000 in
theorem cx_.calls (A0 : Option Addr) (c0 : Nat) (l0 : List Int) (A1 : Option Addr) (c1 : Nat) (l1 : List Int) (r : Bool) (w : World) (hr0 : Kd.C (Kd.int .u8) w A0 l0.length l0) (hc0 : l0.length ≤ c0) (hr1 : Kd.C (Kd.int .u8) w A1 l1.length l1) (hc1 : l1.length ≤ c1) (h : cx_.f l0 l1 = some r) :
  Calls Try.prog 38 #[.slice A0 l0.length c0, .slice A1 l1.length c1] w fun e w' => e = .returned (.bool r) ∧ au_ w w' := by
 have HR0 := Aside0.mk hr0
 have HC0 := Aside0.mk hc0
 clear hr0 hc0
 have HR1 := Aside0.mk hr1
 have HC1 := Aside0.mk hc1
 clear hr1 hc1
 have H : (if (l0.length : Int) > 1048576 then (some true) else (some (decide ((l1.length : Int) > 1048576)))) = some r := h
 clear h
 by_cases c3 : (l0.length : Int) > 1048576
 rotate_left
 ·rw [if_neg c3] at H
  have c3b0 : decide (1048576 < (l0.length : Int)) = false := decide_eq_false c3
  have c3b1 : decide (1048576 < l0.length) = false := decide_eq_false (by omega)
  clear c3
  obtain rfl := Option.some.inj H
  go_enter Try.func38, Try.ntmps38
  go_wp2
  go_ret
  exact ⟨by first | rfl | (simp; done) | (simp [*]; done), by repeat (first | exact au_.refl _ | apply au_.step)⟩
 rw [if_pos c3] at H
 have c3b0 : decide (1048576 < (l0.length : Int)) = true := decide_eq_true c3
 have c3b1 : decide (1048576 < l0.length) = true := decide_eq_true (by omega)
 clear c3
 obtain rfl := Option.some.inj H
 go_enter Try.func38, Try.ntmps38
 go_wp2
 go_ret
 exact ⟨by first | rfl | (simp; done) | (simp [*]; done), by repeat (first | exact au_.refl _ | apply au_.step)⟩
def IsS78 (w0 W : World) (g : Nat) (f0 : List Int) (f1 : Int) (f2 : Int) : Prop := ∃ A0 c0, W.heap[g]? = some (.cells #[.slice A0 f0.length c0, .int .i64 f1, .int .u64 f2] 78 (0, 0)) ∧ w0.heap.size ≤ g ∧ Kd.C (Kd.int .u8) w0 A0 f0.length f0
theorem IsS78.grown {w0 W : World} {g : Nat} {f0 : List Int} {f1 : Int} {f2 : Int} {W1 : World} {row : Option Nat} (h : IsS78 w0 W g f0 f1 f2) (hw : W.grownBy W1 row) (hne : some g ≠ row) : IsS78 w0 W1 g f0 f1 f2 := by
 obtain ⟨A0, c0, hb, hg, hr0⟩ := h
 exact ⟨A0, c0, bF_ hb hw hne, hg, hr0⟩
theorem IsS78.own_neN {w0 W : World} {g : Nat} {f0 : List Int} {f1 : Int} {f2 : Int} {α : Type} {d : Kd α} {e : Nat} {base : Nat} {ok : Nat → Prop} {v : Value} {xs : List α} (h : IsS78 w0 W g f0 f1 f2) (ho : Kd.N d e W base ok v xs) (ht : e ≠ 78) : some g ≠ v.ownBlock := by
 obtain ⟨A0, c0, hb, hg, hr0⟩ := h
 exact Kd.N_ne ho hb ht
theorem IsS78.fresh {w0 W : World} {g : Nat} {f0 : List Int} {f1 : Int} {f2 : Int} (h : IsS78 w0 W g f0 f1 f2) : ∀ k, W.heap.size ≤ k → k ≠ g := by
 obtain ⟨A0, c0, hb, hg, hr0⟩ := h
 exact Kd.cu_ hb
theorem IsS78.kept {w0 W : World} {g : Nat} {f0 : List Int} {f1 : Int} {f2 : Int} {W1 : World} {S : Nat → Prop} (h : IsS78 w0 W g f0 f1 f2) (hk : Kept W W1 S) (hne : ¬ S g) : IsS78 w0 W1 g f0 f1 f2 := by
 obtain ⟨A0, c0, hb, hg, hr0⟩ := h
 exact ⟨A0, c0, blk_kept hb hk hne, hg, hr0⟩
theorem IsS78.below {w0 W : World} {g : Nat} {f0 : List Int} {f1 : Int} {f2 : Int} {W1 : World} (h : IsS78 w0 W g f0 f1 f2) (hw : Below W.heap.size W W1) : IsS78 w0 W1 g f0 f1 f2 := h.grown (cv_ hw none) (by simp)
theorem IsS78.alloc {w0 W : World} {g : Nat} {f0 : List Int} {f1 : Int} {f2 : Int} (h : IsS78 w0 W g f0 f1 f2) (o : Obj) : IsS78 w0 (W.alloc o) g f0 f1 f2 := h.below (bA_ (Below.refl _ _) o)
theorem IsS78.drewN {w0 W : World} {g : Nat} {f0 : List Int} {f1 : Int} {f2 : Int} (h : IsS78 w0 W g f0 f1 f2) (m : Nat) : IsS78 w0 (W.drewN m) g f0 f1 f2 := h
theorem IsS78.drew {w0 W : World} {g : Nat} {f0 : List Int} {f1 : Int} {f2 : Int} (h : IsS78 w0 W g f0 f1 f2) : IsS78 w0 W.drew g f0 f1 f2 := h
theorem IsS78.at_ {w0 W : World} {g : Nat} {f0 : List Int} {f1 : Int} {f2 : Int} {w' : World} {m : Nat} (hq : W.drewN m = w') (h : IsS78 w0 W g f0 f1 f2) : IsS78 w0 w' g f0 f1 f2 := by subst hq; exact IsS78.drewN h m
theorem IsS78.apart {w0 W : World} {g : Nat} {f0 : List Int} {f1 : Int} {f2 : Int} {α : Type} {d : Kd α} {e : Nat} {base : Nat} {ok : Nat → Prop} {v : Value} {xs : List α} (h : IsS78 w0 W g f0 f1 f2) (ho : d.R e W base ok v xs) (ht : ∀ q, q ∈ e :: d.E → q ≠ 78) : d.R e W base (fun k => ok k ∧ k ≠ g) v xs := by
 obtain ⟨A0, c0, hb, hg, hr0⟩ := h
 exact Kd.ck_ ho hb ht
theorem IsS78.own_ne {w0 W : World} {g : Nat} {f0 : List Int} {f1 : Int} {f2 : Int} {α : Type} {d : Kd α} {e : Nat} {base : Nat} {ok : Nat → Prop} {v : Value} {xs : List α} (h : IsS78 w0 W g f0 f1 f2) (ho : d.R e W base ok v xs) (ht : e ≠ 78) : some g ≠ v.ownBlock := by
 obtain ⟨A0, c0, hb, hg, hr0⟩ := h
 exact Kd.R_ne ho hb ht
theorem IsS78.lt {w0 W : World} {g : Nat} {f0 : List Int} {f1 : Int} {f2 : Int} (h : IsS78 w0 W g f0 f1 f2) : g < W.heap.size := by
 obtain ⟨A0, c0, hb, hg, hr0⟩ := h
 exact ca_ hb
theorem IsS78.ge {w0 W : World} {g : Nat} {f0 : List Int} {f1 : Int} {f2 : Int} (h : IsS78 w0 W g f0 f1 f2) : w0.heap.size ≤ g := by
 obtain ⟨A0, c0, hb, hg, hr0⟩ := h
 exact hg
theorem IsS78.far {w0 W : World} {g : Nat} {f0 : List Int} {f1 : Int} {f2 : Int} {p : Addr} (h : IsS78 w0 W g f0 f1 f2) (hne : g ≠ p.block) (u : Value) : IsS78 w0 (W.setCell p u) g f0 f1 f2 := by
 obtain ⟨A0, c0, hb, hg, hr0⟩ := h
 exact ⟨A0, c0, blk_far hb hne u, hg, hr0⟩
theorem cellS78_0 {W : World} {g : Nat} {A0 : Option Addr} {c0 : Nat} {f0 : List Int} {f1 : Int} {f2 : Int} (h : W.heap[g]? = some (.cells #[.slice A0 f0.length c0, .int .i64 f1, .int .u64 f2] 78 (0, 0))) : W.cell? ⟨g, 0, none⟩ = some (.slice A0 f0.length c0) := (ar_ h 0).trans rfl
theorem cellS78_1 {W : World} {g : Nat} {A0 : Option Addr} {c0 : Nat} {f0 : List Int} {f1 : Int} {f2 : Int} (h : W.heap[g]? = some (.cells #[.slice A0 f0.length c0, .int .i64 f1, .int .u64 f2] 78 (0, 0))) : W.cell? ⟨g, 1, none⟩ = some (.int .i64 f1) := (ar_ h 1).trans rfl
theorem IsS78.set_1 {w0 W : World} {g : Nat} {f0 : List Int} {f1 : Int} {f2 : Int} (h : IsS78 w0 W g f0 f1 f2) (x : Int) : IsS78 w0 (W.setCell ⟨g, 1, none⟩ (.int .i64 x)) g f0 x f2 := by
 obtain ⟨A0, c0, hb, hg, hr0⟩ := h
 exact ⟨A0, c0, by simpa using blk_set hb 1 (.int .i64 x), hg, hr0⟩
theorem cellS78_2 {W : World} {g : Nat} {A0 : Option Addr} {c0 : Nat} {f0 : List Int} {f1 : Int} {f2 : Int} (h : W.heap[g]? = some (.cells #[.slice A0 f0.length c0, .int .i64 f1, .int .u64 f2] 78 (0, 0))) : W.cell? ⟨g, 2, none⟩ = some (.int .u64 f2) := (ar_ h 2).trans rfl
theorem IsS78.set_2 {w0 W : World} {g : Nat} {f0 : List Int} {f1 : Int} {f2 : Int} (h : IsS78 w0 W g f0 f1 f2) (x : Int) : IsS78 w0 (W.setCell ⟨g, 2, none⟩ (.int .u64 x)) g f0 f1 x := by
 obtain ⟨A0, c0, hb, hg, hr0⟩ := h
 exact ⟨A0, c0, by simpa using blk_set hb 2 (.int .u64 x), hg, hr0⟩
def cM_.f (l0 : List Int) : Option (List Int × Int × Int) := some (l0, 0, 0)
set_option maxHeartbeats 8000000 in
set_option maxRecDepth 100000 in
theorem cM_.calls (A0 : Option Addr) (c0 : Nat) (l0 : List Int) (r1 : List Int) (r2 : Int) (r3 : Int) (w0 w : World) (hB : Below w0.heap.size w0 w) (hr0 : Kd.C (Kd.int .u8) w0 A0 l0.length l0) (hc0 : l0.length ≤ c0) (h : cM_.f l0 = some (r1, r2, r3)) :
  Calls Try.prog 55 #[.slice A0 l0.length c0] w fun e w' => ∃ g_ : Nat, e = .returned (.pointer (some ⟨g_, 0, none⟩)) ∧ IsS78 w0 w' g_ r1 r2 r3 ∧ Below w0.heap.size w0 w' ∧ Below w.heap.size w w' := by
 have hu78 := Try.underlying78
 have HR0 := Aside0.mk hr0
 have HC0 := Aside0.mk hc0
 clear hr0 hc0
 have HBW := Aside0.mk (Below.refl w.heap.size w)
 have HW0 := Aside0.mk hB.size
 have HB := Aside0.mk hB
 clear hB
 have H : (some (l0, 0, 0)) = some (r1, r2, r3) := h
 clear h
 simp only [Option.some.injEq, Prod.mk.injEq] at H
 obtain ⟨rfl, rfl, rfl⟩ := H
 go_enter Try.func55, Try.ntmps55
 go_wp2_with (first | ((with_reducible refine aO_ (N := 5) rfl ?_); refine bB_ ?hg (N := 5) ?hd (cs := #[.slice A0 l0.length c0, .int .i64 0, .int .u64 0]) (t := 78) ?hr ?_; (case hd => rfl); (case hg => rfl); (case hr => (go_simp; try rfl)); intro gb101 hg w2 hbox hb; replace HB := Aside0.mk (ah_ (bz HB.out) hb); have BK101 := Aside0.mk (hbox); have GW101 := Aside0.mk ((by rw [hg]; exact (am_ (by repeat (first | (with_reducible first | exact HBW.out | apply bA_ | apply bN_ | apply bD_) | exact HBW.out))) : w.heap.size ≤ gb101)); have GE101 := Aside0.mk ((Nat.le_trans HW0.out (by rw [hg]; exact (am_ (by repeat (first | (with_reducible first | exact HBW.out | apply bA_ | apply bN_ | apply bD_) | exact HBW.out))) : w.heap.size ≤ gb101) : w0.heap.size ≤ gb101)); replace HBW := Aside0.mk (ah_ HBW.out hb); clear hb hbox hg))
 go_ret
 exact ⟨_, rfl, (show IsS78 w0 _ gb101 l0 0 0 from ⟨_, _, by (with_reducible repeat (first | refine bh_ ?_ _ | refine aZ_ ?_ | refine aR_ ?_ _)); exact BK101.out, GE101.out, HR0.out⟩), bq, by repeat (first | (with_reducible first | exact HBW.out | apply bA_ | apply bN_ | apply bD_ | refine ab_ ?_ GW101.out) | exact HBW.out)⟩
end Go.Proofs.Ytckboiphlhhckaa.Q
