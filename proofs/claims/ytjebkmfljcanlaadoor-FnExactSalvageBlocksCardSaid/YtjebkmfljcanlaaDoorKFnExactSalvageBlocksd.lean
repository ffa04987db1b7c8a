/- For all arguments that the law's sizes let in, the program's SalvageBlocks gives what the reference gives. This text holds the last walks, the plain law and the row. -/
import Derived.Lib.Bytealg
import Derived.Lib.ItoaLen
import Derived.Lib.SplitLaws
import Derived.Lib.IndexBytes
import Derived.KernelRfl
import Derived.HandedShaped
import Derived.Test.YtjebkmfljcanlaaDoorRows
import Derived.Test.YtjebkmfljcanlaaDoorCards
import Derived.Test.YtjebkmfljcanlaaDoorTie
import Derived.Stop.LaidErr
import Derived.LaidMore
import Derived.Lay
import Derived.SevenTiedAt
import Derived.Stop.Joined
import Derived.Lib.LaidTab
import Derived.WalkKit
import Derived.ProofKit
import Derived.OpenShut
import Derived.ShutString
import Derived.ChangeOld
import Derived.Below
import Derived.SizedLaws
import Derived.Carry
import Derived.Test.YtjebkmfljcanlaaDoorKFnExactSalvageBlocksa
import Derived.Test.YtjebkmfljcanlaaDoorKFnExactSalvageBlocksb
import Derived.Test.YtjebkmfljcanlaaDoorKFnExactSalvageBlocksc
set_option linter.unusedVariables false
set_option linter.unusedSimpArgs false
namespace Go.Proofs.YtjebkmfljcanlaaDoor.Q
open Go.RowKit Go.Proofs.YtjebkmfljcanlaaDoorW.PrintWords Go.Proofs.YtjebkmfljcanlaaDoorW.PrintLast Go.Proofs.YtjebkmfljcanlaaDoorW.PrintMore
attribute [local go_sem] aS_ aT_ bc_ bb_ aI_ aJ_ aR_ aU_
def aK_.l0 : Nat → List (S43) → Int → Option (Bool)
 | 0, _, _ => none
 | k + 1, x0, x3 => if x3 < (x0.length : Int) then (if 0 ≤ x3 then ((aC_.f k [aa_ x0 x3]).bind fun t102 => (if t102 = true then (if x3 > 0 then (if 0 ≤ (wrap64 (x3 - 1)) then (if (wrap64 (x3 - 1)) < (x0.length : Int) then ((aX_.f [aa_ x0 (wrap64 (x3 - 1))] [aa_ x0 x3]).bind fun t105 => (if t105 = true then (aK_.l0 k x0 (wrap64 (x3 + 1))) else (some false))) else (none)) else (none)) else (aK_.l0 k x0 (wrap64 (x3 + 1)))) else (some false))) else (none)) else (some (decide ((x0.length : Int) ≤ 32)))
def aK_.f (k : Nat) (l0 : List (S43)) : Option (Bool) := aK_.l0 k l0 0
set_option maxHeartbeats 8000000 in
set_option maxRecDepth 100000 in
theorem aK_.calls (k : Nat) (A0 : Option Addr) (c0 : Nat) (l0 : List (S43)) (r : Bool) (w : World) (hr0 : Kd.C k43 w A0 l0.length l0) (hc0 : l0.length ≤ c0) (h : aK_.f k l0 = some r) :
  Calls Tryd.prog 43 #[.slice A0 l0.length c0] w fun e w' => e = .returned (.bool r) ∧ ao_ w w' := by
 have HR0 := Aside0.mk hr0
 have HC0 := Aside0.mk hc0
 clear hr0 hc0
 have H : (aK_.l0 k l0 0) = some r := h
 clear h
 have H' := Aside0.mk H
 clear H
 go_enter Tryd.func43, Tryd.ntmps43
 go_wp2
 repeat (go_quiet (fail); try go_wp2)
 (try simp only [Act.put, lsa_, ls0_, ls1_])
 go_loopg [3] k (fun kq v3 w' => ∃ (x3_1 : Int), v3 = .int .i64 x3_1 ∧ Aside0 (aK_.l0 kq l0 x3_1 = some r) ∧ Aside0 (kq ≤ k) ∧ ao_ w w')
 case atStart => exact ⟨(0), (by first | rfl | (simp; done) | (simp [*]; done)), H', ⟨Nat.le_refl _⟩, by repeat (first | exact ao_.refl _ | apply ao_.step)⟩
 case round =>
  clear H'
  obtain ⟨x3_1, rfl, HA, HK1, ⟨m1, rfl⟩⟩ := hrel
  cases gk with
  | zero => exact absurd HA.out (by simp [aK_.l0])
  | succ k1 =>
   have H := HA.out
   clear HA
   simp only [aK_.l0] at H
   by_cases c2 : x3_1 < (l0.length : Int)
   rotate_left
   ·rw [if_neg c2] at H
    have c2b0 : decide (x3_1 < (l0.length : Int)) = false := decide_eq_false c2
    clear c2
    obtain rfl := Option.some.inj H
    go_wp2
    repeat (go_quiet (fail); try go_wp2)
    go_ret
    exact ⟨by first | rfl | (simp; done) | (simp [*]; done), by repeat (first | exact ao_.refl _ | apply ao_.step)⟩
   rw [if_pos c2] at H
   have c2b0 : decide (x3_1 < (l0.length : Int)) = true := decide_eq_true c2
   clear c2
   by_cases c3 : 0 ≤ x3_1
   rotate_left
   ·rw [if_neg c3] at H
    exact absurd H (by simp)
   rw [if_pos c3] at H
   have c3b0 : decide (0 ≤ x3_1) = true := decide_eq_true c3
   clear c3
   replace H := Option.bind_eq_some_iff.mp H
   obtain ⟨t102, A40, H⟩ := H
   (try dsimp only at H)
   have A4 := Aside0.mk A40
   clear A40
   by_cases c5 : t102 = true
   rotate_left
   ·replace c5 := Bool.eq_false_iff.mpr c5
    subst c5
    have H1 : (some false) = some r := by rw [if_neg (show ¬ (false = true) by decide)] at H; exact H
    clear H
    have H := H1
    clear H1
    obtain rfl := Option.some.inj H
    have p101 : 0 ≤ (x3_1 : Int) := of_decide_eq_true (by assumption)
    have q101 : x3_1 < (l0.length : Int) := of_decide_eq_true (by assumption)
    obtain ⟨ad101, e101, hx101_0, hx101_1, hx101_2⟩ := aW_ HR0.out x3_1 p101 q101
    cases e101
    replace p101 := eq_true p101
    replace q101 := eq_true q101
    go_wp2_with (first | (go_at_call 49; (with_reducible refine (aC_.calls k1 _ [aa_ l0 x3_1] false _ ?side1 A4.out).mono ?_); (case side1 => exact (RPW.bQ_ (ad := ad101) (n := l0.length) (xs := l0) z43 (i := x3_1) (by first | exact of_eq_true p101 | exact p101 | omega) (by first | exact of_eq_true q101 | exact q101 | omega) (by first | exact HR0.out | exact cz HR0.out))); rintro e w' ⟨rfl, ⟨nd, rfl⟩⟩; (try first | exact ⟨rfl, _, World.drewN_drewN _ _ _⟩ | exact ⟨rfl, _, Eq.trans (World.drewN_drewN _ _ _) (congrArg (World.drewN _) (Nat.add_assoc _ _ _))⟩)))
    repeat (go_quiet (first | (go_at_call 49; (with_reducible refine (aC_.calls k1 _ [aa_ l0 x3_1] false _ ?side1 A4.out).mono ?_); (case side1 => exact (RPW.bQ_ (ad := ad101) (n := l0.length) (xs := l0) z43 (i := x3_1) (by first | exact of_eq_true p101 | exact p101 | omega) (by first | exact of_eq_true q101 | exact q101 | omega) (by first | exact HR0.out | exact cz HR0.out))); rintro e w' ⟨rfl, ⟨nd, rfl⟩⟩; (try first | exact ⟨rfl, _, World.drewN_drewN _ _ _⟩ | exact ⟨rfl, _, Eq.trans (World.drewN_drewN _ _ _) (congrArg (World.drewN _) (Nat.add_assoc _ _ _))⟩))); try go_wp2_with (first | (go_at_call 49; (with_reducible refine (aC_.calls k1 _ [aa_ l0 x3_1] false _ ?side1 A4.out).mono ?_); (case side1 => exact (RPW.bQ_ (ad := ad101) (n := l0.length) (xs := l0) z43 (i := x3_1) (by first | exact of_eq_true p101 | exact p101 | omega) (by first | exact of_eq_true q101 | exact q101 | omega) (by first | exact HR0.out | exact cz HR0.out))); rintro e w' ⟨rfl, ⟨nd, rfl⟩⟩; (try first | exact ⟨rfl, _, World.drewN_drewN _ _ _⟩ | exact ⟨rfl, _, Eq.trans (World.drewN_drewN _ _ _) (congrArg (World.drewN _) (Nat.add_assoc _ _ _))⟩))))
    go_ret
    exact ⟨by first | rfl | (simp; done) | (simp [*]; done), by repeat (first | exact ao_.refl _ | apply ao_.step)⟩
   subst c5
   have H1 : (if x3_1 > 0 then (if 0 ≤ (wrap64 (x3_1 - 1)) then (if (wrap64 (x3_1 - 1)) < (l0.length : Int) then ((aX_.f [aa_ l0 (wrap64 (x3_1 - 1))] [aa_ l0 x3_1]).bind fun t105 => (if t105 = true then (aK_.l0 k1 l0 (wrap64 (x3_1 + 1))) else (some false))) else (none)) else (none)) else (aK_.l0 k1 l0 (wrap64 (x3_1 + 1)))) = some r := by rw [if_pos rfl] at H; exact H
   clear H
   have H := H1
   clear H1
   by_cases c6 : x3_1 > 0
   rotate_left
   ·rw [if_neg c6] at H
    have c6b0 : decide (0 < x3_1) = false := decide_eq_false c6
    clear c6
    have H' := Aside0.mk H
    clear H
    have p101 : 0 ≤ (x3_1 : Int) := of_decide_eq_true (by assumption)
    have q101 : x3_1 < (l0.length : Int) := of_decide_eq_true (by assumption)
    obtain ⟨ad101, e101, hx101_0, hx101_1, hx101_2⟩ := aW_ HR0.out x3_1 p101 q101
    cases e101
    replace p101 := eq_true p101
    replace q101 := eq_true q101
    go_wp2_with (first | (go_at_call 49; (with_reducible refine (aC_.calls k1 _ [aa_ l0 x3_1] true _ ?side1 A4.out).mono ?_); (case side1 => exact (RPW.bQ_ (ad := ad101) (n := l0.length) (xs := l0) z43 (i := x3_1) (by first | exact of_eq_true p101 | exact p101 | omega) (by first | exact of_eq_true q101 | exact q101 | omega) (by first | exact HR0.out | exact cz HR0.out))); rintro e w' ⟨rfl, ⟨nd, rfl⟩⟩; (try first | exact ⟨rfl, _, World.drewN_drewN _ _ _⟩ | exact ⟨rfl, _, Eq.trans (World.drewN_drewN _ _ _) (congrArg (World.drewN _) (Nat.add_assoc _ _ _))⟩)))
    repeat (go_quiet (first | (go_at_call 49; (with_reducible refine (aC_.calls k1 _ [aa_ l0 x3_1] true _ ?side1 A4.out).mono ?_); (case side1 => exact (RPW.bQ_ (ad := ad101) (n := l0.length) (xs := l0) z43 (i := x3_1) (by first | exact of_eq_true p101 | exact p101 | omega) (by first | exact of_eq_true q101 | exact q101 | omega) (by first | exact HR0.out | exact cz HR0.out))); rintro e w' ⟨rfl, ⟨nd, rfl⟩⟩; (try first | exact ⟨rfl, _, World.drewN_drewN _ _ _⟩ | exact ⟨rfl, _, Eq.trans (World.drewN_drewN _ _ _) (congrArg (World.drewN _) (Nat.add_assoc _ _ _))⟩))); try go_wp2_with (first | (go_at_call 49; (with_reducible refine (aC_.calls k1 _ [aa_ l0 x3_1] true _ ?side1 A4.out).mono ?_); (case side1 => exact (RPW.bQ_ (ad := ad101) (n := l0.length) (xs := l0) z43 (i := x3_1) (by first | exact of_eq_true p101 | exact p101 | omega) (by first | exact of_eq_true q101 | exact q101 | omega) (by first | exact HR0.out | exact cz HR0.out))); rintro e w' ⟨rfl, ⟨nd, rfl⟩⟩; (try first | exact ⟨rfl, _, World.drewN_drewN _ _ _⟩ | exact ⟨rfl, _, Eq.trans (World.drewN_drewN _ _ _) (congrArg (World.drewN _) (Nat.add_assoc _ _ _))⟩))))
    go_roundg k1
    case measure => have := HK1.out; omega
    case rel => exact ⟨(wrap64 (x3_1 + 1)), (by first | rfl | (simp; done) | (simp [*]; done)), H', ⟨by have := HK1.out; omega⟩, by repeat (first | exact ao_.refl _ | apply ao_.step)⟩
   rw [if_pos c6] at H
   have c6b0 : decide (0 < x3_1) = true := decide_eq_true c6
   clear c6
   obtain ⟨ji7, hji7⟩ : ∃ j_ : Int, (wrap64 (x3_1 - 1)) = j_ := ⟨_, rfl⟩
   replace H : (if 0 ≤ (ji7) then (if (ji7) < (l0.length : Int) then ((aX_.f [aa_ l0 (ji7)] [aa_ l0 x3_1]).bind fun t105 => (if t105 = true then (aK_.l0 k1 l0 (wrap64 (x3_1 + 1))) else (some false))) else (none)) else (none)) = some r := by first | (rw [hji7] at H; exact H) | (simp only [hji7] at H ⊢; exact H)
   (try rw [hji7] at A4)
   have hji7w : (IntKind.i64.wrap (x3_1 - 1)) = ji7 := (i64_w _).trans hji7
   by_cases c8 : 0 ≤ (ji7)
   rotate_left
   ·rw [if_neg c8] at H
    exact absurd H (by simp)
   rw [if_pos c8] at H
   have c8b0 : decide (0 ≤ (ji7)) = true := decide_eq_true c8
   clear c8
   by_cases c9 : (ji7) < (l0.length : Int)
   rotate_left
   ·rw [if_neg c9] at H
    exact absurd H (by simp)
   rw [if_pos c9] at H
   have c9b0 : decide ((ji7) < (l0.length : Int)) = true := decide_eq_true c9
   clear c9
   replace H := Option.bind_eq_some_iff.mp H
   obtain ⟨t105, A100, H⟩ := H
   (try dsimp only at H)
   have A10 := Aside0.mk A100
   clear A100
   have HC11 := Aside0.mk H
   clear H
   have p101 : 0 ≤ (x3_1 : Int) := of_decide_eq_true (by assumption)
   have q101 : x3_1 < (l0.length : Int) := of_decide_eq_true (by assumption)
   obtain ⟨ad101, e101, hx101_0, hx101_1, hx101_2⟩ := aW_ HR0.out x3_1 p101 q101
   cases e101
   replace p101 := eq_true p101
   replace q101 := eq_true q101
   have p103 : 0 ≤ ((ji7) : Int) := of_decide_eq_true (by assumption)
   have q103 : (ji7) < (l0.length : Int) := of_decide_eq_true (by assumption)
   obtain ⟨ad103, e103, hx103_0, hx103_1, hx103_2⟩ := aW_ HR0.out (ji7) p103 q103
   obtain rfl : ad101 = ad103 := (by injection e103)
   replace p103 := eq_true p103
   replace q103 := eq_true q103
   have p104 : 0 ≤ (x3_1 : Int) := of_decide_eq_true (by assumption)
   have q104 : x3_1 < (l0.length : Int) := of_decide_eq_true (by assumption)
   obtain ⟨ad104, e104, hx104_0, hx104_1, hx104_2⟩ := aW_ HR0.out x3_1 p104 q104
   obtain rfl : ad101 = ad104 := (by injection e104)
   replace p104 := eq_true p104
   replace q104 := eq_true q104
   go_upto_if 29 with (first | (go_at_call 49; (with_reducible refine (aC_.calls k1 _ [aa_ l0 x3_1] true _ ?side1 A4.out).mono ?_); (case side1 => exact (RPW.bQ_ (ad := ad101) (n := l0.length) (xs := l0) z43 (i := x3_1) (by first | exact of_eq_true p101 | exact p101 | omega) (by first | exact of_eq_true q101 | exact q101 | omega) (by first | exact HR0.out | exact cz HR0.out))); rintro e w' ⟨rfl, ⟨nd, rfl⟩⟩; (try first | exact ⟨rfl, _, World.drewN_drewN _ _ _⟩ | exact ⟨rfl, _, Eq.trans (World.drewN_drewN _ _ _) (congrArg (World.drewN _) (Nat.add_assoc _ _ _))⟩)) | (go_at_call 31; (with_reducible refine (aX_.calls _ [aa_ l0 (ji7)] _ [aa_ l0 x3_1] t105 _ ?side1 ?side2 A10.out).mono ?_); (case side1 => exact (RPW.bQ_ (ad := ad101) (n := l0.length) (xs := l0) z43 (i := (ji7)) (by first | exact of_eq_true p103 | exact p103 | omega) (by first | exact of_eq_true q103 | exact q103 | omega) (by first | exact HR0.out | exact cz HR0.out))); (case side2 => exact (RPW.bQ_ (ad := ad101) (n := l0.length) (xs := l0) z43 (i := x3_1) (by first | exact of_eq_true p104 | exact p104 | omega) (by first | exact of_eq_true q104 | exact q104 | omega) (by first | exact HR0.out | exact cz HR0.out))); rintro e w' ⟨rfl, ⟨nd, rfl⟩⟩; (try first | exact ⟨rfl, _, World.drewN_drewN _ _ _⟩ | exact ⟨rfl, _, Eq.trans (World.drewN_drewN _ _ _) (congrArg (World.drewN _) (Nat.add_assoc _ _ _))⟩)))
   repeat (go_quiet (first | (go_at_call 49; (with_reducible refine (aC_.calls k1 _ [aa_ l0 x3_1] true _ ?side1 A4.out).mono ?_); (case side1 => exact (RPW.bQ_ (ad := ad101) (n := l0.length) (xs := l0) z43 (i := x3_1) (by first | exact of_eq_true p101 | exact p101 | omega) (by first | exact of_eq_true q101 | exact q101 | omega) (by first | exact HR0.out | exact cz HR0.out))); rintro e w' ⟨rfl, ⟨nd, rfl⟩⟩; (try first | exact ⟨rfl, _, World.drewN_drewN _ _ _⟩ | exact ⟨rfl, _, Eq.trans (World.drewN_drewN _ _ _) (congrArg (World.drewN _) (Nat.add_assoc _ _ _))⟩)) | (go_at_call 31; (with_reducible refine (aX_.calls _ [aa_ l0 (ji7)] _ [aa_ l0 x3_1] t105 _ ?side1 ?side2 A10.out).mono ?_); (case side1 => exact (RPW.bQ_ (ad := ad101) (n := l0.length) (xs := l0) z43 (i := (ji7)) (by first | exact of_eq_true p103 | exact p103 | omega) (by first | exact of_eq_true q103 | exact q103 | omega) (by first | exact HR0.out | exact cz HR0.out))); (case side2 => exact (RPW.bQ_ (ad := ad101) (n := l0.length) (xs := l0) z43 (i := x3_1) (by first | exact of_eq_true p104 | exact p104 | omega) (by first | exact of_eq_true q104 | exact q104 | omega) (by first | exact HR0.out | exact cz HR0.out))); rintro e w' ⟨rfl, ⟨nd, rfl⟩⟩; (try first | exact ⟨rfl, _, World.drewN_drewN _ _ _⟩ | exact ⟨rfl, _, Eq.trans (World.drewN_drewN _ _ _) (congrArg (World.drewN _) (Nat.add_assoc _ _ _))⟩))); go_upto_if 29 with (first | (go_at_call 49; (with_reducible refine (aC_.calls k1 _ [aa_ l0 x3_1] true _ ?side1 A4.out).mono ?_); (case side1 => exact (RPW.bQ_ (ad := ad101) (n := l0.length) (xs := l0) z43 (i := x3_1) (by first | exact of_eq_true p101 | exact p101 | omega) (by first | exact of_eq_true q101 | exact q101 | omega) (by first | exact HR0.out | exact cz HR0.out))); rintro e w' ⟨rfl, ⟨nd, rfl⟩⟩; (try first | exact ⟨rfl, _, World.drewN_drewN _ _ _⟩ | exact ⟨rfl, _, Eq.trans (World.drewN_drewN _ _ _) (congrArg (World.drewN _) (Nat.add_assoc _ _ _))⟩)) | (go_at_call 31; (with_reducible refine (aX_.calls _ [aa_ l0 (ji7)] _ [aa_ l0 x3_1] t105 _ ?side1 ?side2 A10.out).mono ?_); (case side1 => exact (RPW.bQ_ (ad := ad101) (n := l0.length) (xs := l0) z43 (i := (ji7)) (by first | exact of_eq_true p103 | exact p103 | omega) (by first | exact of_eq_true q103 | exact q103 | omega) (by first | exact HR0.out | exact cz HR0.out))); (case side2 => exact (RPW.bQ_ (ad := ad101) (n := l0.length) (xs := l0) z43 (i := x3_1) (by first | exact of_eq_true p104 | exact p104 | omega) (by first | exact of_eq_true q104 | exact q104 | omega) (by first | exact HR0.out | exact cz HR0.out))); rintro e w' ⟨rfl, ⟨nd, rfl⟩⟩; (try first | exact ⟨rfl, _, World.drewN_drewN _ _ _⟩ | exact ⟨rfl, _, Eq.trans (World.drewN_drewN _ _ _) (congrArg (World.drewN _) (Nat.add_assoc _ _ _))⟩))))
   (try simp only [Act.put, lsa_, ls0_, ls1_])
   have H := HC11.out
   clear HC11
   by_cases c12 : t105 = true
   rotate_left
   ·replace c12 := Bool.eq_false_iff.mpr c12
    subst c12
    have H1 : (some false) = some r := by rw [if_neg (show ¬ (false = true) by decide)] at H; exact H
    clear H
    have H := H1
    clear H1
    obtain rfl := Option.some.inj H
    go_wp2
    repeat (go_quiet (fail); try go_wp2)
    go_ret
    exact ⟨by first | rfl | (simp; done) | (simp only [← hji7] <;> (first | rfl | simp)) | (simp [*]; done), by repeat (first | exact ao_.refl _ | apply ao_.step)⟩
   subst c12
   have H1 : (aK_.l0 k1 l0 (wrap64 (x3_1 + 1))) = some r := by rw [if_pos rfl] at H; exact H
   clear H
   have H := H1
   clear H1
   have H' := Aside0.mk H
   clear H
   go_wp2
   repeat (go_quiet (fail); try go_wp2)
   go_roundg k1
   case measure => have := HK1.out; omega
   case rel => exact ⟨(wrap64 (x3_1 + 1)), (by first | rfl | (simp; done) | (simp [*]; done)), H', ⟨by have := HK1.out; omega⟩, by repeat (first | exact ao_.refl _ | apply ao_.step)⟩
end Go.Proofs.YtjebkmfljcanlaaDoor.Q
namespace Go.Proofs.YtjebkmfljcanlaaDoor.Q
open Go.RowKit Go.Proofs.YtjebkmfljcanlaaDoorW.PrintWords Go.Proofs.YtjebkmfljcanlaaDoorW.PrintLast Go.Proofs.YtjebkmfljcanlaaDoorW.PrintMore
structure Ordr {κ : Type} (c : κ → κ → Int) : Prop where
 zero : ∀ a b, c a b = 0 ↔ a = b
 anti : ∀ a b, c a b < 0 ↔ 0 < c b a
 trans : ∀ a b d, c a b < 0 → c b d < 0 → c a d < 0
theorem cb_ord : Ordr Go.Lib.compareBytes := by
 constructor
 ·intro a
  induction a with
  | nil => intro b; cases b <;> simp [Go.Lib.compareBytes]
  | cons x a ih =>
   intro b
   cases b with
   | nil => simp [Go.Lib.compareBytes]
   | cons y b =>
    simp only [Go.Lib.compareBytes]
    by_cases h1 : x < y
    rotate_left
    ·by_cases h2 : y < x
     rotate_left
     ·have : x = y := UInt8.le_antisymm (UInt8.not_lt.1 h2) (UInt8.not_lt.1 h1)
      subst this
      simp [h1, ih]
     have : x ≠ y := fun e => by subst e; exact absurd h2 (UInt8.lt_irrefl _)
     simp [h1, h2, this]
    have : x ≠ y := fun e => by subst e; exact absurd h1 (UInt8.lt_irrefl _)
    simp [h1, this]
 ·intro a
  induction a with
  | nil => intro b; cases b <;> simp [Go.Lib.compareBytes]
  | cons x a ih =>
   intro b
   cases b with
   | nil => simp [Go.Lib.compareBytes]
   | cons y b =>
    simp only [Go.Lib.compareBytes]
    by_cases h1 : x < y
    rotate_left
    ·by_cases h2 : y < x
     rotate_left
     ·simp [h1, h2, ih]
     simp [h1, h2]
    have h2 : ¬ y < x := fun h => absurd (UInt8.lt_trans h1 h) (UInt8.lt_irrefl _)
    simp [h1, h2]
 ·intro a
  induction a with
  | nil => intro b d; cases b <;> cases d <;> simp [Go.Lib.compareBytes]
  | cons x a ih =>
   intro b d
   cases b with
   | nil => simp [Go.Lib.compareBytes]
   | cons y b =>
    cases d with
    | nil => simp [Go.Lib.compareBytes]
    | cons z d =>
     simp only [Go.Lib.compareBytes]
     by_cases h1 : x < y
     rotate_left
     ·by_cases h1' : y < x
      ·simp [h1, h1']
      ·have : x = y := UInt8.le_antisymm (UInt8.not_lt.1 h1') (UInt8.not_lt.1 h1)
       subst this
       by_cases h2 : x < z
       rotate_left
       ·by_cases h3 : z < x
        rotate_left
        ·simpa [h1, h2, h3] using ih b d
        simp [h2, h3]
       simp [h2]
     by_cases h2 : y < z
     rotate_left
     ·by_cases h3 : z < y
      rotate_left
      ·have : y = z := UInt8.le_antisymm (UInt8.not_lt.1 h3) (UInt8.not_lt.1 h2)
       subst this
       simp [h1]
      simp [h1, h2, h3]
     simp [h1, h2, UInt8.lt_trans h1 h2]
def lx (c : List UInt8 → List UInt8 → Int) (a b : List UInt8 × List UInt8) : Int := if c a.1 b.1 = 0 then c a.2 b.2 else c a.1 b.1
theorem lx_ord {c : List UInt8 → List UInt8 → Int} (h : Ordr c) : Ordr (lx c) := by
 constructor
 ·rintro ⟨a, b⟩ ⟨d, e⟩
  unfold lx
  simp only
  by_cases g : c a d = 0
  rotate_left
  ·rw [if_neg g]
   have : a ≠ d := fun e => g ((h.zero a d).2 e)
   simp [g, this]
  rw [if_pos g, h.zero b e]
  have := (h.zero a d).1 g
  subst this
  simp
 ·rintro ⟨a, b⟩ ⟨d, e⟩
  unfold lx
  simp only
  by_cases g : c a d = 0
  rotate_left
  ·have g2 : ¬ c d a = 0 := fun q => g ((h.zero a d).2 ((h.zero d a).1 q).symm)
   rw [if_neg g, if_neg g2]
   exact h.anti a d
  have := (h.zero a d).1 g
  subst this
  rw [if_pos g, if_pos g]
  exact h.anti b e
 ·rintro ⟨a, b⟩ ⟨d, e⟩ ⟨u, v⟩
  unfold lx
  simp only
  by_cases g : c a d = 0
  rotate_left
  ·rw [if_neg g]
   by_cases g2 : c d u = 0
   rotate_left
   ·rw [if_neg g2]
    intro q1 q2
    have q3 := h.trans a d u q1 q2
    rw [if_neg (by omega)]
    exact q3
   have := (h.zero d u).1 g2
   subst this
   rw [if_pos g2, if_neg g]; exact fun q _ => q
  have := (h.zero a d).1 g
  subst this
  rw [if_pos g]
  by_cases g2 : c a u = 0
  rotate_left
  ·rw [if_neg g2, if_neg g2]; exact fun _ q => q
  rw [if_pos g2, if_pos g2]; exact h.trans b e v
theorem Ordr.step {κ : Type} {c : κ → κ → Int} (h : Ordr c) {x y t : κ} (h1 : c x y < 0) (h2 : 0 ≤ c x t) : 0 < c y t := by
 by_cases e : c x t = 0
 rotate_left
 ·have q : c t x < 0 := (h.anti t x).2 (by omega)
  exact (h.anti t y).1 (h.trans t x y q h1)
 have := (h.zero x t).1 e
 subst this
 exact (h.anti _ _).1 h1
def plc {α : Type} (c : α → Int) : List α → Nat
 | [] => 0
 | x :: l => if c x < 0 then plc c l + 1 else 0
def Rsg {α : Type} (c : α → Int) (l : List α) : Prop := ∀ (i j : Nat) (hi : i < j) (hj : j < l.length), 0 ≤ c l[i] → 0 < c l[j]
theorem plc_le {α : Type} (c : α → Int) : ∀ l, plc c l ≤ l.length
 | [] => by simp [plc]
 | x :: l => by have := plc_le c l; unfold plc; split <;> simp <;> omega
theorem plc_lt {α : Type} (c : α → Int) : ∀ l (i : Nat) (hi : i < l.length), i < plc c l → c l[i] < 0
 | [], i, hi, _ => by simp at hi
 | x :: l, i, hi, h => by
  unfold plc at h
  split at h
  ·rename_i hx
   cases i with
   | zero => exact hx
   | succ i => exact plc_lt c l i (by simpa using hi) (by omega)
  ·omega
theorem plc_at {α : Type} (c : α → Int) : ∀ l (h : plc c l < l.length), 0 ≤ c (l[plc c l]'h)
 | [], h => by simp [plc] at h
 | x :: l, h => by
  by_cases hx : c x < 0
  rotate_left
  ·have e : plc c (x :: l) = 0 := by rw [plc, if_neg hx]
   simp only [e, List.getElem_cons_zero]
   omega
  have e : plc c (x :: l) = plc c l + 1 := by rw [plc, if_pos hx]
  have h2 : plc c l < l.length := by rw [e] at h; simpa using h
  have := plc_at c l h2
  simpa only [e, List.getElem_cons_succ] using this
theorem Rsg.gt {α : Type} {c : α → Int} {l : List α} (h : Rsg c l) (i : Nat) (hi : i < l.length) (hp : plc c l < i) : 0 < c l[i] := h (plc c l) i hp hi (plc_at c l (by omega))
def fnd {α : Type} (c : α → Int) (l : List α) : Bool := if h : plc c l < l.length then decide (c (l[plc c l]'h) = 0) else false
theorem fnd_t {α : Type} {c : α → Int} {l : List α} (h : fnd c l = true) : ∃ hp : plc c l < l.length, c (l[plc c l]'hp) = 0 := by
 unfold fnd at h
 split at h
 ·rename_i hp; exact ⟨hp, by simpa using h⟩
 ·cases h
theorem fnd_f {α : Type} {c : α → Int} {l : List α} (hr : Rsg c l) (h : fnd c l = false) (i : Nat) (hi : i < l.length) : c l[i] ≠ 0 := by
 rcases Nat.lt_trichotomy i (plc c l) with g | g | g
 ·have := plc_lt c l i hi g; omega
 ·subst g
  unfold fnd at h
  rw [dif_pos hi] at h
  simpa using h
 ·have := hr.gt i hi g; omega
theorem rsg_of {α κ : Type} {c : κ → κ → Int} (ho : Ordr c) (key : α → κ) {l : List α} (h : ∀ (i : Nat) (hi : i + 1 < l.length), c (key (l[i]'(by omega))) (key l[i + 1]) < 0) (t : κ) : Rsg (fun x => c (key x) t) l := by
 have q : ∀ (d i : Nat) (hj : i + d + 1 < l.length), c (key (l[i]'(by omega))) (key l[i + d + 1]) < 0 := by
  intro d
  induction d with
  | zero => intro i hj; exact h i hj
  | succ d ih =>
   intro i hj
   exact ho.trans _ _ _ (ih i (by omega)) (h (i + d + 1) (by omega))
 intro i j hi hj h0
 have e : i + (j - i - 1) + 1 = j := by omega
 have := q (j - i - 1) i (by omega)
 simp only [e] at this
 exact ho.step this h0
theorem mid_ev (i j : Nat) (h : (i : Int) + j < 1000000000000) : wrap64 ((IntKind.u64.wrap (wrap64 ((i : Int) + j))) / 2) = (((i + j) / 2 : Nat) : Int) := by
 rw [wr64 (x := (i : Int) + j) (by omega) (by omega)]
 have : IntKind.u64.wrap ((i : Int) + j) = (i : Int) + j := by simp [IntKind.wrap, IntKind.bits, IntKind.signed]; omega
 rw [this, wr64 (by omega) (by omega)]
 omega
section
variable {α κ : Type} {c : κ → κ → Int} {key : α → κ}
theorem rsgG (ho : Ordr c) {l : List α} (h : l.Pairwise (fun x y => c (key x) (key y) < 0)) (t : κ) : Rsg (fun x => c (key x) t) l := by
 intro i j hi hj h0
 exact ho.step ((List.pairwise_iff_getElem.1 h) i j (by omega) hj hi) h0
def putG (c : κ → κ → Int) (key : α → κ) (l : List α) (b : α) : List α :=
 if fnd (fun x => c (key x) (key b)) l = true then l.take (plc (fun x => c (key x) (key b)) l) ++ b :: l.drop (plc (fun x => c (key x) (key b)) l + 1)
 else l.take (plc (fun x => c (key x) (key b)) l) ++ b :: l.drop (plc (fun x => c (key x) (key b)) l)
theorem aheadG {l : List α} {t : κ} {x : α} (h : x ∈ l.take (plc (fun x => c (key x) t) l)) : c (key x) t < 0 := by
 obtain ⟨i, hi, rfl⟩ := List.mem_iff_getElem.1 h
 rw [List.getElem_take]
 exact plc_lt (fun x => c (key x) t) l i (by simp at hi; omega) (by simp at hi; omega)
theorem behindG {l : List α} {t : κ} (hr : Rsg (fun x => c (key x) t) l) {x : α} (h : x ∈ l.drop (plc (fun x => c (key x) t) l + 1)) : 0 < c (key x) t := by
 obtain ⟨i, hi, rfl⟩ := List.mem_iff_getElem.1 h
 rw [List.getElem_drop]
 exact hr.gt _ (by simp at hi; omega) (by omega)
theorem putG_pw (ho : Ordr c) {l : List α} (h : l.Pairwise (fun x y => c (key x) (key y) < 0)) (b : α) : (putG c key l b).Pairwise (fun x y => c (key x) (key y) < 0) := by
 have hr := rsgG ho h (key b)
 have hp := plc_le (fun x => c (key x) (key b)) l
 have key' : ∀ q, (∀ x ∈ l.drop q, 0 < c (key x) (key b)) → plc (fun x => c (key x) (key b)) l ≤ q → (l.take (plc (fun x => c (key x) (key b)) l) ++ b :: l.drop q).Pairwise (fun x y => c (key x) (key y) < 0) := by
  intro q hq hle
  rw [List.pairwise_append]
  refine ⟨h.sublist (List.take_sublist _ _), ?_, ?_⟩
  ·rw [List.pairwise_cons]
   exact ⟨fun y hy => (ho.anti _ _).2 (hq y hy), h.sublist (List.drop_sublist _ _)⟩
  ·intro x hx y hy
   have hx0 := aheadG hx
   rcases List.mem_cons.1 hy with e | e
   ·subst e; exact hx0
   ·exact ho.trans _ _ _ hx0 ((ho.anti _ _).2 (hq y e))
 unfold putG
 split
 ·exact key' _ (fun x hx => behindG hr hx) (by omega)
 ·rename_i hf
  refine key' _ (fun x hx => ?_) (Nat.le_refl _)
  obtain ⟨i, hi, rfl⟩ := List.mem_iff_getElem.1 hx
  rw [List.getElem_drop]
  simp at hi
  have hn := fnd_f hr (by simpa using hf) (plc (fun x => c (key x) (key b)) l + i) (by omega)
  rcases Nat.eq_zero_or_pos i with g | g
  ·subst g
   have := plc_at (fun x => c (key x) (key b)) l (by omega)
   simp only [Nat.add_zero] at hn ⊢
   omega
  ·exact hr.gt _ (by omega) (by omega)
end
end Go.Proofs.YtjebkmfljcanlaaDoor.Q
namespace Go.Proofs.YtjebkmfljcanlaaDoor.Q
open Go.RowKit Go.Proofs.YtjebkmfljcanlaaDoorW.PrintWords Go.Proofs.YtjebkmfljcanlaaDoorW.PrintLast Go.Proofs.YtjebkmfljcanlaaDoorW.PrintMore
theorem w64 {x : Int} (h0 : -9223372036854775808 ≤ x) (h1 : x < 9223372036854775808) : wrap64 x = x := by unfold wrap64; omega
theorem toList_len (x : ByteArray) : x.toList.length = x.size := by
 rw [Go.ByteArray.toList_eq x, Array.length_toList]; rfl
theorem name_round (k : Nat) (x : ByteArray) (i : Int) : ay_.l0 k x i = an_.l0 k x i := by
 induction k generalizing i with
 | zero => rfl
 | succ k ih =>
  simp only [ay_.l0, an_.l0, ih, bp_.f, bJ_.f]
  by_cases h1 : i < (x.size : Int)
  rotate_left
  ·rw [if_neg h1, if_neg h1]
  rw [if_pos h1, if_pos h1]
  by_cases h2 : 0 ≤ i
  rotate_left
  ·rw [if_neg h2, if_neg h2]
  rw [if_pos h2, if_pos h2]
  generalize bt x i = c
  by_cases h3 : c < 97
  rotate_left
  ·rw [if_neg h3, if_pos (show c ≥ 97 by omega)]
   by_cases h4 : c > 122
   rotate_left
   ·rw [if_neg h4]; simp [show c ≤ 122 by omega]
   simp [h4, show ¬ c < 48 by omega, show c > 57 by omega, show ¬ c ≤ 122 by omega, show ¬ c ≤ 57 by omega]
  rw [if_pos h3, if_neg (by omega)]
  by_cases h4 : c < 48
  rotate_left
  ·rw [if_neg h4, if_pos (by omega)]
   by_cases h5 : c > 57
   rotate_left
   ·rw [if_neg h5]; simp [show c ≤ 57 by omega]
   rw [if_pos h5]; simp [show ¬ c ≤ 57 by omega]
  rw [if_pos h4, if_neg (by omega)]; simp
theorem name_same (k : Nat) (x : ByteArray) : ay_.f k x = an_.f k x := by
 have hj : ∀ b, ay_.j0 k x b = an_.j0 k x b := by
  intro b
  cases k with
  | zero => rfl
  | succ k => simp only [ay_.j0, an_.j0, name_round]
 unfold ay_.f an_.f bp_.f
 simp only [hj]
 by_cases h0 : x.toList = []
 rotate_left
 ·have : x.size ≠ 0 := by
   intro e; apply h0; apply List.eq_nil_of_length_eq_zero; rw [toList_len, e]
  rw [if_neg h0, if_neg (show ¬ (x.size : Int) < 1 by omega)]
  by_cases h1 : (x.size : Int) > 10
  rotate_left
  ·rw [if_neg h1, if_neg h1, if_pos (show 0 < (x.size : Int) by omega), if_pos (show 0 < (x.size : Int) by omega)]
   generalize bt x 0 = c
   by_cases h3 : c < 97
   rotate_left
   ·rw [if_neg h3, if_pos (show c ≥ 97 by omega)]
    simp only [Option.bind_some]
    congr 1
    by_cases h4 : c > 122
    rotate_left
    ·simp [h4, show c ≤ 122 by omega]
    simp [h4, show ¬ c ≤ 122 by omega]
   rw [if_pos h3, if_neg (show ¬ c ≥ 97 by omega)]; rfl
  rw [if_pos h1, if_pos h1]
 have : x.size = 0 := by rw [← toList_len, h0]; rfl
 rw [if_pos h0, if_pos (by omega)]
theorem name_ev (x : ByteArray) : ∃ b, ∀ k, 12 < k → an_.f k x = some b := by
 have go : ∀ (d : Nat) (i : Int), 0 ≤ i → i + d = x.size → (x.size : Int) ≤ 10 → ∃ b, ∀ k, d < k → an_.l0 k x i = some b := by
  intro d
  induction d with
  | zero =>
   intro i h0 h1 _
   refine ⟨true, fun k hk => ?_⟩
   obtain ⟨k, rfl⟩ : ∃ m, k = m + 1 := ⟨k - 1, by omega⟩
   simp only [an_.l0]
   rw [if_neg (by omega)]
  | succ d ih =>
   intro i h0 h1 h2
   obtain ⟨b, hb⟩ := ih (i + 1) (by omega) (by omega) h2
   by_cases h3 : bt x i < 97
   rotate_left
   ·by_cases h4 : bt x i > 122
    rotate_left
    ·refine ⟨b, fun k hk => ?_⟩
     obtain ⟨k, rfl⟩ : ∃ m, k = m + 1 := ⟨k - 1, by omega⟩
     simp only [an_.l0]
     rw [if_pos (by omega), if_pos h0, if_neg h3, if_neg h4, w64 (by omega) (by omega), hb k (by omega)]
    refine ⟨false, fun k hk => ?_⟩
    obtain ⟨k, rfl⟩ : ∃ m, k = m + 1 := ⟨k - 1, by omega⟩
    simp only [an_.l0]
    rw [if_pos (by omega), if_pos h0, if_neg h3, if_pos h4, if_neg (by omega), if_pos (by omega)]
   by_cases h4 : bt x i < 48
   rotate_left
   ·by_cases h5 : bt x i > 57
    rotate_left
    ·refine ⟨b, fun k hk => ?_⟩
     obtain ⟨k, rfl⟩ : ∃ m, k = m + 1 := ⟨k - 1, by omega⟩
     simp only [an_.l0]
     rw [if_pos (by omega), if_pos h0, if_pos h3, if_neg h4, if_neg h5, w64 (by omega) (by omega), hb k (by omega)]
    refine ⟨false, fun k hk => ?_⟩
    obtain ⟨k, rfl⟩ : ∃ m, k = m + 1 := ⟨k - 1, by omega⟩
    simp only [an_.l0]
    rw [if_pos (by omega), if_pos h0, if_pos h3, if_neg h4, if_pos h5]
   refine ⟨false, fun k hk => ?_⟩
   obtain ⟨k, rfl⟩ : ∃ m, k = m + 1 := ⟨k - 1, by omega⟩
   simp only [an_.l0]
   rw [if_pos (by omega), if_pos h0, if_pos h3, if_pos h4]
 have hj : ∀ (b : Bool), (b = false → (x.size : Int) ≤ 10) → ∃ c, ∀ k, 12 < k → an_.j0 k x b = some c := by
  intro b hs
  cases b with
  | true =>
   refine ⟨false, fun k hk => ?_⟩
   obtain ⟨k, rfl⟩ : ∃ m, k = m + 1 := ⟨k - 1, by omega⟩
   simp only [an_.j0, if_true]
  | false =>
   obtain ⟨c, hc⟩ := go x.size 0 (by omega) (by omega) (hs rfl)
   have := hs rfl
   refine ⟨c, fun k hk => ?_⟩
   obtain ⟨k, rfl⟩ : ∃ m, k = m + 1 := ⟨k - 1, by omega⟩
   simp only [an_.j0]
   rw [if_neg (by decide), hc k (by omega)]
 unfold an_.f
 by_cases h1 : (x.size : Int) < 1
 rotate_left
 ·simp only [if_neg h1]
  by_cases h2 : (x.size : Int) > 10
  rotate_left
  ·simp only [if_neg h2, if_pos (show 0 < (x.size : Int) by omega)]
   by_cases h3 : bt x 0 < 97
   rotate_left
   ·simp only [if_neg h3]; exact hj _ (fun _ => by omega)
   simp only [if_pos h3]; exact hj true (by intro h; cases h)
  simp only [if_pos h2]; exact hj true (by intro h; cases h)
 simp only [if_pos h1]; exact hj true (by intro h; cases h)
def noNl : List UInt8 → Bool
 | [] => true
 | x :: l => if x = 10 then false else noNl l
theorem noNl_index : ∀ l : List UInt8, (!decide (0 ≤ Go.Lib.indexByte l 10)) = noNl l
 | [] => by decide
 | x :: l => by
  have ih := noNl_index l
  have hg := Go.Lib.indexByte_ge l 10
  unfold noNl Go.Lib.indexByte
  by_cases h : x = 10
  rotate_left
  ·have hb : (x == 10) = false := by simpa using h
   rw [if_neg (by rw [hb]; decide), if_neg h, ← ih]
   by_cases h2 : Go.Lib.indexByte l 10 = -1
   rotate_left
   ·have hb2 : (Go.Lib.indexByte l 10 == -1) = false := by simpa using h2
    rw [if_neg (by rw [hb2]; decide)]
    simp [show 0 ≤ Go.Lib.indexByte l 10 by omega, show 0 ≤ Go.Lib.indexByte l 10 + 1 by omega]
   simp [h2]
  simp [h]
theorem bt_get (s : ByteArray) (i : Nat) (h : i < s.data.toList.length) : (bt s (i : Int) = 10) = (s.data.toList[i] = 10) := by
 have hs : i < s.size := by rw [Array.length_toList] at h; exact h
 unfold bt
 rw [dif_pos (show (i : Int).toNat < s.size from hs)]
 have e : s[(i : Int).toNat]'hs = s.data.toList[i] := by simp; rfl
 rw [e]
 apply propext
 constructor
 ·intro he; apply UInt8.toNat_inj.1; have : (s.data.toList[i].toNat : Int) = ((10 : UInt8).toNat : Int) := he; exact Int.ofNat_inj.1 this
 ·intro he; rw [he]; rfl
theorem oneB_loop (x : S43) (hx : (x.f2.size : Int) ≤ 1048576) (na nb : Bool) (ha : ∀ k, 12 < k → an_.f k x.f0 = some na) (hb : ∀ k, 12 < k → an_.f k x.f1 = some nb) : ∀ (d i : Nat), i + d = x.f2.size → ∀ k, d + 20 < k → aC_.l0 k [x] i = some (noNl (x.f2.data.toList.drop i) && (na && (nb && decide ((x.f2.size : Int) ≤ 400)))) := by
 have hrd : aa_ [x] 0 = x := rfl
 have hsz : x.f2.data.toList.length = x.f2.size := by rw [Array.length_toList]; rfl
 have g0 : (0 < (([x] : List S43).length : Int)) = True := eq_true (by simp)
 intro d
 induction d with
 | zero =>
  intro i h k hk
  obtain ⟨k, rfl⟩ : ∃ m, k = m + 1 := ⟨k - 1, by omega⟩
  have g1 : ((i : Int) < (x.f2.size : Int)) = False := eq_false (by omega)
  simp only [aC_.l0, hrd, g0, g1, if_true, if_false, name_same, ha k (by omega), hb k (by omega), Option.bind_some]
  rw [List.drop_of_length_le (by omega)]
  cases na <;> cases nb <;> simp [noNl]
 | succ d ih =>
  intro i h k hk
  obtain ⟨k, rfl⟩ : ∃ m, k = m + 1 := ⟨k - 1, by omega⟩
  have g1 : ((i : Int) < (x.f2.size : Int)) = True := eq_true (by omega)
  have g2 : (0 ≤ (i : Int)) = True := eq_true (by omega)
  have g4 : wrap64 ((i : Int) + 1) = ((i + 1 : Nat) : Int) := by rw [w64 (by omega) (by omega)]; omega
  have hi : i < x.f2.data.toList.length := by omega
  simp only [aC_.l0, hrd, g0, g1, g2, g4, if_true]
  rw [List.drop_eq_getElem_cons hi]
  unfold noNl
  by_cases hc : x.f2.data.toList[i] = 10
  rotate_left
  ·rw [if_neg (by rw [bt_get x.f2 i hi]; exact hc), if_neg hc, ih (i + 1) (by omega) k (by omega)]
  rw [if_pos ((bt_get x.f2 i hi).symm ▸ hc), if_pos hc]; rfl
theorem validB_ev (x : S43) (hx : (x.f2.size : Int) ≤ 1048576) : ∃ b, ∀ k, 2000000 < k → aC_.f k [x] = some b ∧ aD_.f k x.f0 x.f1 x.f2 = some b := by
 obtain ⟨na, ha⟩ := name_ev x.f0
 obtain ⟨nb, hb⟩ := name_ev x.f1
 refine ⟨noNl x.f2.data.toList && (na && (nb && decide ((x.f2.size : Int) ≤ 400))), fun k hk => ⟨?_, ?_⟩⟩
 ·have := oneB_loop x hx na nb ha hb x.f2.size 0 (by omega) k (by omega)
  unfold aC_.f
  simpa using this
 ·unfold aD_.f strings_Contains.f
  rw [ha k (by omega), hb k (by omega)]
  have hn := noNl_index x.f2.data.toList
  cases na
  ·simp
  ·cases nb
   ·simp
   ·by_cases h4 : (x.f2.size : Int) ≤ 400
    ·simp only [Option.bind_some, if_true, h4]
     rw [hn]; simp
    ·simp [h4]
theorem rd_B (l : List S43) (i : Nat) (h : i < l.length) : aa_ l (i : Int) = l[i] := by unfold aa_; simp [List.getD, h]
theorem cmp_lt : ∀ l m : List UInt8, (Go.Lib.compareBytes l m < 0 ↔ Op.bytesLess l m = true) ∧ (Go.Lib.compareBytes l m = 0 ↔ l = m)
 | [], [] => by simp [Go.Lib.compareBytes, Op.bytesLess]
 | [], _ :: _ => by simp [Go.Lib.compareBytes, Op.bytesLess]
 | _ :: _, [] => by simp [Go.Lib.compareBytes, Op.bytesLess]
 | a :: x, b :: y => by
  obtain ⟨h1, h2⟩ := cmp_lt x y
  unfold Go.Lib.compareBytes Op.bytesLess
  by_cases hab : a < b
  rotate_left
  ·by_cases hba : b < a
   rotate_left
   ·have he : a = b := UInt8.le_antisymm (UInt8.not_lt.1 hba) (UInt8.not_lt.1 hab)
    subst he
    simp only [hab, if_false, h1, h2]
    simp
   have hne : a ≠ b := fun e => by subst e; exact absurd hba (UInt8.lt_irrefl _)
   simp [hab, hba, hne]
  have hne : a ≠ b := fun e => by subst e; exact absurd hab (UInt8.lt_irrefl _)
  simp [hab, hne]
theorem before_ev (x y : S43) : ∃ c, aX_.f [x] [y] = some (!decide (c ≥ (0 : Int))) ∧ aM_.f x.f0 x.f1 x.f2 y.f0 y.f1 y.f2 = some c := by
 have h1 : aa_ [x] 0 = x := rfl
 have h2 : aa_ [y] 0 = y := rfl
 unfold aX_.f aM_.f strings_Compare.f
 simp only [h1, h2, Option.bind_some, Go.ByteArray.toList_eq]
 rw [if_pos (by simp), if_pos (by simp)]
 obtain ⟨a1, a2⟩ := cmp_lt x.f0.data.toList y.f0.data.toList
 obtain ⟨b1, _⟩ := cmp_lt x.f1.data.toList y.f1.data.toList
 by_cases hz : Go.Lib.compareBytes x.f0.data.toList y.f0.data.toList = 0
 rotate_left
 ·refine ⟨Go.Lib.compareBytes x.f0.data.toList y.f0.data.toList, ?_, by rw [if_neg hz]⟩
  by_cases hl : Op.bytesLess x.f0.data.toList y.f0.data.toList = true
  rotate_left
  ·have : ¬ Go.Lib.compareBytes x.f0.data.toList y.f0.data.toList < 0 := fun e => hl (a1.1 e)
   rw [if_neg hl, if_neg (fun e => hz (a2.2 e))]
   simp [show Go.Lib.compareBytes x.f0.data.toList y.f0.data.toList ≥ 0 by omega]
  have := a1.2 hl
  rw [if_pos hl]
  simp [show ¬ Go.Lib.compareBytes x.f0.data.toList y.f0.data.toList ≥ 0 by omega]
 refine ⟨Go.Lib.compareBytes x.f1.data.toList y.f1.data.toList, ?_, by rw [if_pos hz]⟩
 have hn : ¬ Op.bytesLess x.f0.data.toList y.f0.data.toList = true := fun e => by have := a1.2 e; omega
 rw [if_neg hn, if_pos (a2.1 hz)]
 congr 1
 cases hb : Op.bytesLess x.f1.data.toList y.f1.data.toList with
 | true => have := b1.2 hb; simp [show ¬ Go.Lib.compareBytes x.f1.data.toList y.f1.data.toList ≥ 0 by omega]
 | false =>
  have : ¬ Go.Lib.compareBytes x.f1.data.toList y.f1.data.toList < 0 := fun e => by rw [b1.1 e] at hb; cases hb
  simp [show Go.Lib.compareBytes x.f1.data.toList y.f1.data.toList ≥ 0 by omega]
theorem validBS_ev (m : List S43) (hl : (m.length : Int) ≤ 1048576) (hw : ∀ y ∈ m, (y.f2.size : Int) ≤ 1048576) : ∃ b, ∀ k, 4000000 < k → aK_.f k m = some b ∧ al_.f k m = some b := by
 have go : ∀ (d i : Nat), i + d = m.length → ∃ b, ∀ k, d + 2000001 < k → aK_.l0 k m i = some b ∧ al_.l0 k m m (m.length : Int) i = some b := by
  intro d
  induction d with
  | zero =>
   intro i h1
   have g1 : ((i : Int) < (m.length : Int)) = False := eq_false (by omega)
   refine ⟨decide ((m.length : Int) ≤ 32), fun k hk => ?_⟩
   obtain ⟨k, rfl⟩ : ∃ m, k = m + 1 := ⟨k - 1, by omega⟩
   simp only [aK_.l0, al_.l0, g1, if_false]
   exact ⟨trivial, trivial⟩
  | succ d ih =>
   intro i h1
   obtain ⟨b, hv⟩ := validB_ev m[i] (hw _ (List.getElem_mem _))
   have e1 : ∀ k, 2000000 < k → aC_.f k [m[i]] = some b := fun k h => (hv k h).1
   have e2 : ∀ k, 2000000 < k → aD_.f k m[i].f0 m[i].f1 m[i].f2 = some b := fun k h => (hv k h).2
   obtain ⟨c, hk0⟩ := ih (i + 1) (by omega)
   have g1 : ((i : Int) < (m.length : Int)) = True := eq_true (by omega)
   have g2 : (0 ≤ (i : Int)) = True := eq_true (by omega)
   have g3 := rd_B m i (by omega)
   have g4 : wrap64 ((i : Int) + 1) = ((i + 1 : Nat) : Int) := by rw [w64 (by omega) (by omega)]; omega
   have gf : (false = true) = False := by simp
   cases b with
   | false =>
    refine ⟨false, fun k hk => ?_⟩
    obtain ⟨k, rfl⟩ : ∃ m, k = m + 1 := ⟨k - 1, by omega⟩
    simp only [aK_.l0, al_.l0, g1, g2, g3, if_true, e1 k (by omega), e2 k (by omega), Option.bind_some, gf, if_false]
    exact ⟨trivial, trivial⟩
   | true =>
    by_cases hi : i = 0
    rotate_left
    ·have g5 : ((i : Int) > 0) = True := eq_true (by omega)
     have g6 : wrap64 ((i : Int) - 1) = (i : Int) - 1 := w64 (by omega) (by omega)
     have g7 : (0 ≤ (i : Int) - 1) = True := eq_true (by omega)
     have g8 : ((i : Int) - 1 < (m.length : Int)) = True := eq_true (by omega)
     obtain ⟨t, t1, t2⟩ := before_ev (aa_ m ((i : Int) - 1)) m[i]
     by_cases ht : t ≥ 0
     rotate_left
     ·have ht1 : (t ≥ 0) = False := eq_false ht
      rw [show (!decide (t ≥ 0)) = true by simp; omega] at t1
      refine ⟨c, fun k hk => ?_⟩
      obtain ⟨k, rfl⟩ : ∃ m, k = m + 1 := ⟨k - 1, by omega⟩
      obtain ⟨f1, f2⟩ := hk0 k (by omega)
      simp only [aK_.l0, al_.l0, g1, g2, g3, if_true, e1 k (by omega), e2 k (by omega), Option.bind_some, g5, g6, g7, g8, t1, t2, ht1, if_false, g4]
      exact ⟨f1, f2⟩
     have ht1 : (t ≥ 0) = True := eq_true ht
     rw [show (!decide (t ≥ 0)) = false by simp; omega] at t1
     refine ⟨false, fun k hk => ?_⟩
     obtain ⟨k, rfl⟩ : ∃ m, k = m + 1 := ⟨k - 1, by omega⟩
     simp only [aK_.l0, al_.l0, g1, g2, g3, if_true, e1 k (by omega), e2 k (by omega), Option.bind_some, g5, g6, g7, g8, t1, t2, ht1, gf, if_false]
     exact ⟨trivial, trivial⟩
    have g5 : ((i : Int) > 0) = False := eq_false (by omega)
    refine ⟨c, fun k hk => ?_⟩
    obtain ⟨k, rfl⟩ : ∃ m, k = m + 1 := ⟨k - 1, by omega⟩
    obtain ⟨f1, f2⟩ := hk0 k (by omega)
    simp only [aK_.l0, al_.l0, g1, g2, g3, if_true, e1 k (by omega), e2 k (by omega), Option.bind_some, g5, if_false, g4]
    exact ⟨f1, f2⟩
 obtain ⟨b, hk0⟩ := go m.length 0 (by omega)
 exact ⟨b, fun k hk => hk0 k (by omega)⟩
abbrev Blk := S43
def cB : List UInt8 × List UInt8 → List UInt8 × List UInt8 → Int := lx Go.Lib.compareBytes
theorem cB_ord : Ordr cB := lx_ord cb_ord
def ckB (x : Blk) : List UInt8 × List UInt8 := (x.f0.data.toList, x.f1.data.toList)
theorem cmp_ev (a0 a1 a2 b0 b1 b2 : ByteArray) : aM_.f a0 a1 a2 b0 b1 b2 = some (cB (a0.data.toList, a1.data.toList) (b0.data.toList, b1.data.toList)) := by
 unfold aM_.f strings_Compare.f cB lx
 simp only [Option.bind_some]
 split <;> rfl
theorem bfr_ev (x y : Blk) : aX_.f [x] [y] = some (decide (cB (ckB x) (ckB y) < 0)) := by
 obtain ⟨c, h1, h2⟩ := before_ev x y
 rw [cmp_ev] at h2
 have h3 : cB (ckB x) (ckB y) = c := Option.some.inj h2
 rw [h1, ← h3]
 congr 1
 by_cases h : cB (ckB x) (ckB y) < 0
 rotate_left
 ·simp [h]; omega
 simp [h]
theorem key_iff (x : Blk) (u v : ByteArray) : cB (ckB x) (u.data.toList, v.data.toList) = 0 ↔ x.f0.toList = u.toList ∧ x.f1.toList = v.toList := by
 rw [cB_ord.zero]
 simp only [ckB, Prod.mk.injEq, Go.ByteArray.toList_eq]
theorem bs_ev (l : List Blk) (hl : (l.length : Int) ≤ 1048576) (u v w : ByteArray) (hr : Rsg (fun x => cB (ckB x) (u.data.toList, v.data.toList)) l) :
  Ev (fun k => aq_.f k l u v w) (((plc (fun x => cB (ckB x) (u.data.toList, v.data.toList)) l : Nat) : Int), fnd (fun x => cB (ckB x) (u.data.toList, v.data.toList)) l) := by
 have hp0 := plc_le (fun x => cB (ckB x) (u.data.toList, v.data.toList)) l
 have go : ∀ (d i j : Nat), j = i + d → i ≤ plc (fun x => cB (ckB x) (u.data.toList, v.data.toList)) l → plc (fun x => cB (ckB x) (u.data.toList, v.data.toList)) l ≤ j → j ≤ l.length → Ev (fun k => aq_.l0 k l (l.length : Int) i j u v w) (((plc (fun x => cB (ckB x) (u.data.toList, v.data.toList)) l : Nat) : Int), fnd (fun x => cB (ckB x) (u.data.toList, v.data.toList)) l) := by
  intro d
  induction d using Nat.strongRecOn with
  | _ d ih =>
  intro i j h1 h2 h3 h4
  refine aV_ ?_
  simp only [aq_.l0]
  by_cases hd : d = 0
  rotate_left
  ·refine Ev_t (by omega) ?_
   rw [mid_ev i j (by omega)]
   obtain ⟨m, hm⟩ : ∃ m, m = (i + j) / 2 := ⟨_, rfl⟩
   rw [← hm]
   have hm1 : m < l.length := by omega
   refine Ev_t (by omega) (Ev_t (by omega) ?_)
   rw [bC_ l m hm1, cmp_ev]
   refine Ev_s ?_
   by_cases hc : cB (l[m].f0.data.toList, l[m].f1.data.toList) (u.data.toList, v.data.toList) < 0
   rotate_left
   ·refine Ev_f hc ?_
    refine ih (m - i) (by omega) i m (by omega) h2 ?_ (by omega)
    rcases Nat.lt_or_ge m (plc (fun x => cB (ckB x) (u.data.toList, v.data.toList)) l) with g | g
    ·exact absurd (plc_lt _ l m hm1 g) hc
    ·exact g
   refine Ev_t hc ?_
   rw [wr64s m (by omega)]
   refine ih (j - (m + 1)) (by omega) (m + 1) j (by omega) ?_ h3 h4
   rcases Nat.lt_or_ge m (plc (fun x => cB (ckB x) (u.data.toList, v.data.toList)) l) with g | g
   ·exact g
   ·rcases Nat.lt_or_eq_of_le g with g | g
    ·have hgt : 0 < cB (ckB l[m]) (u.data.toList, v.data.toList) := hr.gt m hm1 g
     have hc' : cB (ckB l[m]) (u.data.toList, v.data.toList) < 0 := hc
     omega
    ·have := plc_at (fun x => cB (ckB x) (u.data.toList, v.data.toList)) l (by omega)
     simp only [g] at this
     have hc' : cB (ckB l[m]) (u.data.toList, v.data.toList) < 0 := hc
     omega
  refine Ev_f (by omega) ?_
  have hp : plc (fun x => cB (ckB x) (u.data.toList, v.data.toList)) l = i := by omega
  by_cases hn : i < l.length
  rotate_left
  ·refine Ev_f (by omega) (Ev_n ?_)
   unfold fnd
   rw [dif_neg (by omega), hp]
  refine Ev_t (by omega) (Ev_t (by omega) (Ev_t (by omega) ?_))
  rw [bC_ l i hn, cmp_ev]
  refine Ev_s (Ev_n ?_)
  unfold fnd
  rw [dif_pos (by omega)]
  simp only [hp]
  rfl
 simp only [aq_.f]
 exact go l.length 0 l.length (by omega) (by omega) hp0 (Nat.le_refl _)
def putB (l : List Blk) (b : Blk) : List Blk :=
 if fnd (fun x => cB (ckB x) (ckB b)) l = true then l.take (plc (fun x => cB (ckB x) (ckB b)) l) ++ b :: l.drop (plc (fun x => cB (ckB x) (ckB b)) l + 1)
 else l.take (plc (fun x => cB (ckB x) (ckB b)) l) ++ b :: l.drop (plc (fun x => cB (ckB x) (ckB b)) l)
theorem put_ev (l : List Blk) (hl : (l.length : Int) ≤ 1048576) (b : Blk) (hr : Rsg (fun x => cB (ckB x) (ckB b)) l) : Ev (fun k => ap_.f k l b.f0 b.f1 b.f2) (putB l b) := by
 obtain ⟨c, hc⟩ : ∃ c, c = (fun x => cB (ckB x) (ckB b)) := ⟨_, rfl⟩
 unfold putB
 rw [← hc] at hr ⊢
 have key : ∀ x, c x = 0 ↔ x.f0.toList = b.f0.toList ∧ x.f1.toList = b.f1.toList := fun x => by rw [hc]; exact key_iff x b.f0 b.f1
 have hb : (⟨b.f0, b.f1, b.f2⟩ : Blk) = b := rfl
 have cEq : ∀ y, cB (ckB y) (ckB b) = c y := fun y => by rw [hc]
 have two : ∀ (d i : Nat) (out : List Blk), i + d = l.length → plc c l < i → out.length ≤ i + 1 → Ev (fun k => ap_.l0 k l out true i b.f0 b.f1 b.f2) (out ++ l.drop i) := by
  intro d
  induction d with
  | zero =>
   intro i out h1 h2 h3
   refine aV_ ?_
   simp only [ap_.l0]
   rw [List.drop_of_length_le (by omega), List.append_nil]
   exact Ev_f (by omega) (Ev_t (by trivial) (Ev_n rfl))
  | succ d ih =>
   intro i out h1 h2 h3
   refine aV_ ?_
   simp only [ap_.l0]
   refine Ev_t (by omega) (Ev_t (by trivial) (aV_ ?_))
   simp only [ap_.j1]
   refine Ev_f (by decide) (Ev_t (by omega) (Ev_t (by omega) ?_))
   rw [bC_ l i (by omega), wr64s i (by omega), List.drop_eq_getElem_cons (show i < l.length by omega)]
   have hn : c l[i] ≠ 0 := by have := hr.gt i (by omega) h2; omega
   have nxt := ih (i + 1) (out ++ [l[i]]) (by omega) (by omega) (by simp; omega)
   rw [List.append_assoc, List.singleton_append] at nxt
   by_cases e0 : l[i].f0.toList = b.f0.toList
   rotate_left
   ·exact Ev_f e0 (Ev_t (by omega) nxt)
   refine Ev_t e0 (Ev_f (fun e1 => hn ((key _).2 ⟨e0, e1⟩)) (Ev_t (by omega) nxt))
 have one : ∀ (d i : Nat), i + d = plc c l → Ev (fun k => ap_.l0 k l (l.take i) false i b.f0 b.f1 b.f2) (if fnd c l = true then l.take (plc c l) ++ b :: l.drop (plc c l + 1) else l.take (plc c l) ++ b :: l.drop (plc c l)) := by
  have hp0 := plc_le c l
  intro d
  induction d with
  | zero =>
   intro i h1
   have h1' : i = plc c l := by omega
   subst h1'
   refine aV_ ?_
   simp only [ap_.l0]
   have hlen : (l.take (plc c l)).length = plc c l := by simp; omega
   by_cases hn : plc c l < l.length
   rotate_left
   ·have hf : ¬ fnd c l = true := by unfold fnd; rw [dif_neg hn]; decide
    rw [if_neg hf, List.drop_of_length_le (by omega)]
    exact Ev_f (by omega) (Ev_f (by decide) (Ev_t (by omega) (Ev_n rfl)))
   refine Ev_t (by omega) (Ev_f (by decide) (Ev_t (by omega) ?_))
   rw [bC_ l _ hn, hb, bfr_ev]
   refine Ev_s (aV_ ?_)
   have h0 := plc_at c l hn
   rw [cEq]
   simp only [ap_.j1]
   refine Ev_t (by simpa using h0) (Ev_t (by omega) (Ev_s (Ev_t (by omega) (Ev_t (by omega) ?_))))
   rw [bC_ l _ hn, hb, wr64s _ (by omega)]
   have more : ∀ out : List Blk, out.length ≤ plc c l + 2 → Ev (fun k => ap_.l0 k l out true ((plc c l + 1 : Nat) : Int) b.f0 b.f1 b.f2) (out ++ l.drop (plc c l + 1)) := fun out ho =>
    two (l.length - (plc c l + 1)) (plc c l + 1) out (by omega) (by omega) ho
   by_cases hz : c l[plc c l] = 0
   rotate_left
   ·have hf : ¬ fnd c l = true := by unfold fnd; rw [dif_pos hn]; simpa using hz
    rw [if_neg hf]
    have last := more (l.take (plc c l) ++ [b] ++ [l[plc c l]]) (by simp; omega)
    have last' : Ev (fun k => ap_.l0 k l (l.take (plc c l) ++ [b] ++ [(⟨l[plc c l].f0, l[plc c l].f1, l[plc c l].f2⟩ : Blk)]) true ((plc c l + 1 : Nat) : Int) b.f0 b.f1 b.f2) (l.take (plc c l) ++ b :: l.drop (plc c l)) := by
     refine Ev_at last ?_
     rw [List.append_assoc, List.append_assoc, List.singleton_append, List.singleton_append, List.getElem_cons_drop]
    by_cases e0 : l[plc c l].f0.toList = b.f0.toList
    rotate_left
    ·exact Ev_f e0 (Ev_t (by simp; omega) last')
    exact Ev_t e0 (Ev_f (fun e1 => hz ((key _).2 ⟨e0, e1⟩)) (Ev_t (by simp; omega) last'))
   have hf : fnd c l = true := by unfold fnd; rw [dif_pos hn]; simpa using hz
   rw [if_pos hf]
   obtain ⟨e0, e1⟩ := (key _).1 hz
   refine Ev_t e0 (Ev_t e1 ?_)
   refine Ev_at (more _ (by simp; omega)) ?_
   rw [List.append_assoc, List.singleton_append]
  | succ d ih =>
   intro i h1
   have hi : i < l.length := by omega
   have hlen : (l.take i).length = i := by simp; omega
   refine aV_ ?_
   simp only [ap_.l0]
   refine Ev_t (by omega) (Ev_f (by decide) (Ev_t (by omega) ?_))
   rw [bC_ l i hi, hb, bfr_ev]
   refine Ev_s (aV_ ?_)
   have h0 := plc_lt c l i hi (by omega)
   rw [cEq]
   simp only [ap_.j1]
   refine Ev_f (by simpa using h0) (Ev_t (by omega) (Ev_t (by omega) ?_))
   rw [bC_ l i hi, wr64s i (by omega)]
   have nxt := ih (i + 1) (by omega)
   rw [List.take_succ_eq_append_getElem hi] at nxt
   by_cases e0 : l[i].f0.toList = b.f0.toList
   rotate_left
   ·exact Ev_f e0 (Ev_t (by omega) nxt)
   exact Ev_t e0 (Ev_f (fun e1 => by have := (key _).2 ⟨e0, e1⟩; omega) (Ev_t (by omega) nxt))
 simp only [ap_.f]
 exact one (plc c l) 0 (by omega)
theorem ok_loop (m : List Blk) (hl : (m.length : Int) ≤ 1048576) : ∀ (d i k : Nat), i + d = m.length → aK_.l0 k m i = some true → m.length ≤ 32 ∧ ∀ (j : Nat), i ≤ j → 0 < j → ∀ (hj : j < m.length), cB (ckB (m[j - 1]'(by omega))) (ckB m[j]) < 0 := by
 intro d
 induction d with
 | zero =>
  intro i k h1 h
  cases k with
  | zero => simp [aK_.l0] at h
  | succ k =>
   simp only [aK_.l0] at h
   rw [if_neg (by omega)] at h
   have h := Option.some.inj h
   exact ⟨by have := of_decide_eq_true h; omega, fun j h2 _ hj => by omega⟩
 | succ d ih =>
  intro i k h1 h
  cases k with
  | zero => simp [aK_.l0] at h
  | succ k =>
   simp only [aK_.l0] at h
   rw [if_pos (by omega), if_pos (by omega)] at h
   obtain ⟨t, _, h⟩ := Option.bind_eq_some_iff.1 h
   cases t with
   | false => simp at h
   | true =>
    rw [if_pos rfl] at h
    by_cases hi : i = 0
    rotate_left
    ·have e : wrap64 ((i : Int) - 1) = ((i - 1 : Nat) : Int) := by rw [wr64 (by omega) (by omega)]; omega
     rw [if_pos (by omega), e, if_pos (by omega), if_pos (by omega), bC_ m (i - 1) (by omega), bC_ m i (by omega), bfr_ev] at h
     simp only [Option.bind_some] at h
     by_cases hc : cB (ckB (m[i - 1]'(by omega))) (ckB (m[i]'(by omega))) < 0
     rotate_left
     ·rw [if_neg (by simpa using hc)] at h
      simp at h
     rw [if_pos (by simpa using hc), wr64s i (by omega)] at h
     obtain ⟨a1, a2⟩ := ih (i + 1) k (by omega) h
     refine ⟨a1, fun j h2 h3 hj => ?_⟩
     rcases Nat.lt_or_eq_of_le h2 with g | g
     ·exact a2 j (by omega) h3 hj
     ·subst g; exact hc
    subst hi
    rw [if_neg (by omega), wr64s 0 (by omega)] at h
    obtain ⟨a1, a2⟩ := ih 1 k (by omega) h
    exact ⟨a1, fun j h2 h3 hj => a2 j (by omega) h3 hj⟩
theorem ok_ev (m : List Blk) (hl : (m.length : Int) ≤ 1048576) (hw : ∀ y ∈ m, (y.f2.size : Int) ≤ 1048576) : ∃ b, Ev (fun k => aK_.f k m) b ∧ Ev (fun k => al_.f k m) b ∧ (b = true → m.length ≤ 32 ∧ ∀ t, Rsg (fun x => cB (ckB x) t) m) := by
 obtain ⟨b, hb⟩ := validBS_ev m hl hw
 refine ⟨b, ⟨4000001, fun k hk => (hb k (by omega)).1⟩, ⟨4000001, fun k hk => (hb k (by omega)).2⟩, fun h => ?_⟩
 subst h
 have h1 := (hb 4000001 (by omega)).1
 simp only [aK_.f] at h1
 obtain ⟨a1, a2⟩ := ok_loop m hl m.length 0 4000001 (by omega) h1
 refine ⟨a1, fun t => rsg_of cB_ord ckB (fun i hi => ?_) t⟩
 exact a2 (i + 1) (by omega) (by omega) hi
abbrev Bs (l : List UInt8) : ByteArray := ⟨l.toArray⟩
theorem Bs_app (a b : List UInt8) : Bs a ++ Bs b = Bs (a ++ b) := by
 apply ByteArray.ext
 simp
theorem br_ (l : List UInt8) : (Bs l).size = l.length := by simp [ByteArray.size]
theorem Bs_data (s : ByteArray) : Bs s.data.toList = s := by cases s; rfl
theorem Bs_list (l : List UInt8) : (Bs l).data.toList = l := by simp
def digs (u : Nat) : List Int := if h : u = 0 then [] else (48 + (u % 10 : Nat) : Int) :: digs (u / 10)
termination_by u
decreasing_by omega
theorem digs_zero : digs 0 = [] := by rw [digs, dif_pos rfl]
theorem digs_pos {u : Nat} (h : u ≠ 0) : digs u = (48 + (u % 10 : Nat) : Int) :: digs (u / 10) := by rw [digs, dif_neg h]
theorem digs_dec (u : Nat) (h : u ≠ 0) : (digs u).reverse.map (fun n => UInt8.ofNat n.toNat) = Go.Lib.decDigits u := by
 induction u using Nat.strongRecOn with
 | _ u ih =>
  rw [digs_pos h, Go.Lib.decDigits]
  by_cases h10 : u < 10
  rotate_left
  ·rw [dif_neg h10, List.reverse_cons, List.map_append, ih (u / 10) (by omega) (by omega)]
   simp only [List.map_cons, List.map_nil]
   rw [show (48 + ((u % 10 : Nat) : Int)).toNat = 48 + u % 10 by omega]
  rw [dif_pos h10, show u / 10 = 0 by omega, digs_zero, Nat.mod_eq_of_lt h10]
  simp only [List.reverse_cons, List.reverse_nil, List.nil_append, List.map_cons, List.map_nil]
  rw [show (48 + (u : Int)).toNat = 48 + u by omega]
def its (n : Int) : ByteArray := Bs (Go.Lib.itoa n)
theorem rev_ev (x3 : List Int) (hl : x3.length ≤ 1000) : ∀ (j : Nat) (x6 : List Int), j ≤ x3.length → x6.length + j ≤ 1000 → Ev (fun k => ax_.l1 k x3 x6 ((j : Int) - 1)) (strOfNums (x6 ++ (x3.take j).reverse))
 | 0, x6, _, _ => by
  refine aV_ ?_
  simp only [ax_.l1]
  exact Ev_f (by omega) (Ev_n (by simp))
 | j + 1, x6, h, h2 => by
  refine aV_ ?_
  simp only [ax_.l1]
  have e : ((j + 1 : Nat) : Int) - 1 = (j : Int) := by omega
  rw [e]
  refine Ev_t (by omega) (Ev_t (by omega) (Ev_t (by omega) (Ev_t (by omega) ?_)))
  rw [wr64 (x := (j : Int) - 1) (by omega) (by omega)]
  have hr : rd x3 (j : Int) = x3[j] := by unfold rd; exact getD_in x3 _ j (by omega)
  have := rev_ev x3 hl j (x6 ++ [rd x3 (j : Int)]) (by omega) (by simp; omega)
  refine Ev_at this ?_
  rw [hr, List.take_succ_eq_append_getElem (by omega), List.reverse_append]
  simp
theorem dec_loop (n0 : Int) : ∀ (d u : Nat) (x3 : List Int) (m : Int), u < 10 ^ d → d ≤ 19 → x3.length + d ≤ 30 → m = (if n0 < 0 then -(u : Int) else (u : Int)) → Ev (fun k => ax_.l0 k n0 x3 m) (strOfNums ((x3 ++ digs u ++ (if n0 < 0 then [45] else [])).reverse)) := by
 have fin : ∀ (x : List Int), x.length ≤ 100 → Ev (fun k => ax_.j1 k x) (strOfNums x.reverse) := fun x hx => by
  refine aV_ ?_
  simp only [ax_.j1]
  rw [wr64 (x := (x.length : Int) - 1) (by omega) (by omega)]
  have := rev_ev x (by omega) x.length [] (Nat.le_refl _) (by simp; omega)
  simpa using this
 have stop : ∀ (x3 : List Int), x3.length ≤ 50 → Ev (fun k => ax_.l0 k n0 x3 0) (strOfNums ((x3 ++ (if n0 < 0 then [45] else [])).reverse)) := fun x3 h => by
  refine aV_ ?_
  simp only [ax_.l0]
  refine Ev_t (by simp) ?_
  by_cases c : n0 < 0
  rotate_left
  ·rw [if_neg c, List.append_nil]
   exact Ev_f c (fin _ (by omega))
  rw [if_pos c]
  exact Ev_t c (Ev_t (by omega) (fin _ (by simp; omega)))
 intro d
 induction d with
 | zero =>
  intro u x3 m hu hd hl hm
  have : u = 0 := by simpa using hu
  subst this
  have hm0 : m = 0 := by rw [hm]; split <;> rfl
  subst hm0
  rw [digs_zero, List.append_nil]
  exact stop x3 (by omega)
 | succ d ih =>
  intro u x3 m hu hd hl hm
  by_cases h0 : u = 0
  rotate_left
  ·have hu2 : u / 10 < 10 ^ d := by rw [Nat.pow_succ] at hu; omega
   have hbig : u < 10000000000000000000 := Nat.lt_of_lt_of_le hu (Nat.le_trans (Nat.pow_le_pow_right (by decide) hd) (by decide))
   refine aV_ ?_
   simp only [ax_.l0]
   have step := ih (u / 10) (x3 ++ [48 + ((u % 10 : Nat) : Int)]) (if n0 < 0 then -((u / 10 : Nat) : Int) else ((u / 10 : Nat) : Int)) hu2 (by omega) (by simp; omega) rfl
   rw [List.append_assoc x3, List.singleton_append, ← digs_pos h0] at step
   by_cases c : n0 < 0
   rotate_left
   ·rw [if_neg c] at hm step
    subst hm
    have e1 : Int.tmod (u : Int) 10 = ((u % 10 : Nat) : Int) := by rw [Int.tmod_eq_emod_of_nonneg (by omega)]; omega
    have e2 : Int.tdiv (u : Int) 10 = ((u / 10 : Nat) : Int) := by rw [Int.tdiv_eq_ediv_of_nonneg (by omega)]; omega
    refine Ev_f (by omega) ?_
    rw [e1, e2, wr64 (x := ((u / 10 : Nat) : Int)) (by omega) (by omega)]
    refine Ev_f (by omega) (Ev_t (by omega) ?_)
    rw [wr64 (x := 48 + ((u % 10 : Nat) : Int)) (by omega) (by omega), show (48 + ((u % 10 : Nat) : Int)) % 256 = 48 + ((u % 10 : Nat) : Int) by omega]
    exact step
   rw [if_pos c] at hm step
   subst hm
   have e1 : Int.tmod (-(u : Int)) 10 = -((u % 10 : Nat) : Int) := by rw [Int.neg_tmod, Int.tmod_eq_emod_of_nonneg (by omega)]; omega
   have e2 : Int.tdiv (-(u : Int)) 10 = -((u / 10 : Nat) : Int) := by rw [Int.neg_tdiv, Int.tdiv_eq_ediv_of_nonneg (by omega)]; omega
   refine Ev_f (by omega) ?_
   rw [e1, e2, wr64 (x := -((u / 10 : Nat) : Int)) (by omega) (by omega)]
   by_cases cz : u % 10 = 0
   rotate_left
   ·refine Ev_t (by omega) (Ev_t (by omega) ?_)
    rw [wr64 (x := - -((u % 10 : Nat) : Int)) (by omega) (by omega), wr64 (x := 48 + - -((u % 10 : Nat) : Int)) (by omega) (by omega), show (48 + - -((u % 10 : Nat) : Int)) % 256 = 48 + ((u % 10 : Nat) : Int) by omega]
    exact step
   refine Ev_f (by omega) (Ev_t (by omega) ?_)
   rw [wr64 (x := 48 + -((u % 10 : Nat) : Int)) (by omega) (by omega), show (48 + -((u % 10 : Nat) : Int)) % 256 = 48 + ((u % 10 : Nat) : Int) by omega]
   exact step
  subst h0
  have hm0 : m = 0 := by rw [hm]; split <;> rfl
  subst hm0
  rw [digs_zero, List.append_nil]
  exact stop x3 (by omega)
theorem dec_ev (n : Int) (h0 : -9223372036854775808 ≤ n) (h1 : n ≤ 9223372036854775807) : Ev (fun k => ax_.f k n) (its n) := by
 simp only [ax_.f]
 by_cases c : n = 0
 rotate_left
 ·refine Ev_f c ?_
  have := dec_loop n 19 n.natAbs [] n (by rw [show (10 : Nat) ^ 19 = 10000000000000000000 by decide]; omega) (by omega) (by simp) (by split <;> omega)
  refine Ev_at this ?_
  rw [List.nil_append, List.reverse_append]
  have hd := digs_dec n.natAbs (by omega)
  unfold its Go.Lib.itoa strOfNums Bs
  by_cases cn : n < 0
  rotate_left
  ·rw [if_neg cn, if_neg cn, List.map_append, hd, show n.toNat = n.natAbs by omega]; rfl
  rw [if_pos cn, if_pos cn, List.map_append, hd]; rfl
 subst c
 refine Ev_t rfl (Ev_n ?_)
 unfold its Go.Lib.itoa
 rw [if_neg (by decide), Go.Lib.decDigits, dif_pos (by decide)]
 rfl
theorem Decimal_f (n : Int) (h0 : -9223372036854775808 ≤ n) (h1 : n ≤ 9223372036854775807) : bI_.f n = some (its n) := by
 unfold bI_.f bj_.f
 rw [if_pos ⟨rfl, h0, h1⟩]
 rfl
theorem bt_in (l : List UInt8) (i : Nat) (h : i < l.length) : bt (Bs l) (i : Int) = (l[i].toNat : Int) := by
 unfold bt
 have hs : (i : Int).toNat < (Bs l).size := by rw [br_]; simpa using h
 rw [dif_pos hs]
 simp
 rfl
theorem u8_eq (c : UInt8) (n : Nat) (hn : n < 256) : ((c.toNat : Int) = (n : Int)) ↔ c = UInt8.ofNat n := by
 constructor
 ·intro h
  apply UInt8.toNat.inj
  rw [UInt8.toNat_ofNat_of_lt' hn]
  omega
 ·rintro rfl
  rw [UInt8.toNat_ofNat_of_lt' hn]
def spl (c : UInt8) : List UInt8 → List (List UInt8)
 | [] => [[]]
 | b :: l => if b = c then [] :: spl c l else match spl c l with
  | h :: t => (b :: h) :: t
  | [] => [[b]]
def glue (p : List UInt8) : List (List UInt8) → List (List UInt8)
 | h :: t => (p ++ h) :: t
 | [] => [p]
theorem spl_ne (c : UInt8) : ∀ l, spl c l ≠ []
 | [] => by simp [spl]
 | b :: l => by
  rw [spl]
  split
  ·simp
  ·split <;> simp
theorem spl_len (c : UInt8) : ∀ l, (spl c l).length ≤ l.length + 1
 | [] => by simp [spl]
 | b :: l => by
  have := spl_len c l
  rw [spl]
  split
  ·simp only [List.length_cons]; omega
  ·split
   ·rename_i h t e
    rw [e] at this
    simp only [List.length_cons] at this ⊢
    omega
   ·simp
theorem glue_nil (xs : List (List UInt8)) (h : xs ≠ []) : glue [] xs = xs := by
 cases xs with
 | nil => exact absurd rfl h
 | cons a t => rfl
theorem glue_cons (p : List UInt8) (b c : UInt8) (l : List UInt8) (h : b ≠ c) : glue p (spl c (b :: l)) = glue (p ++ [b]) (spl c l) := by
 rw [spl, if_neg h]
 cases hs : spl c l with
 | nil => exact absurd hs (spl_ne c l)
 | cons a t => simp [glue]
theorem splitK_eq (c : UInt8) : ∀ s : List UInt8, Go.Lib.splitK [c] 0 (Go.Lib.count s [c]) s = spl c s
 | [] => by
  rw [Go.Lib.count_miss (by simp [Go.Lib.index])]
  rfl
 | b :: l => by
  have ih := splitK_eq c l
  by_cases h : b = c
  rotate_left
  ·rw [Go.Lib.count_cons_ne b c l h]
   have hp : ([c] : List UInt8).isPrefixOf (b :: l) = false := by simp [List.isPrefixOf, Ne.symm h]
   have hix : Go.Lib.index (b :: l) [c] = if Go.Lib.index l [c] == -1 then -1 else Go.Lib.index l [c] + 1 := by rw [Go.Lib.index, hp]; simp
   rw [spl, if_neg h]
   by_cases hm : Go.Lib.index l [c] = -1
   rotate_left
   ·have hge := Go.Lib.index_ge l [c]
    obtain ⟨j, hj⟩ : ∃ j : Nat, Go.Lib.index l [c] = j := ⟨(Go.Lib.index l [c]).toNat, by omega⟩
    have hk : ∃ k, Go.Lib.count l [c] = k + 1 := ⟨Go.Lib.count (l.drop (j + 1)) [c], by rw [Go.Lib.count_hit (by simp) hj]; simp; omega⟩
    obtain ⟨k, hk⟩ := hk
    rw [hk] at ih ⊢
    have hne : ¬ (Go.Lib.index l [c] == -1) = true := fun e => hm (beq_iff_eq.1 e)
    have hix2 : Go.Lib.index (b :: l) [c] = ((j + 1 : Nat) : Int) := by rw [hix, if_neg hne, hj]; omega
    have hne2 : ¬ (Go.Lib.index (b :: l) [c] == -1) = true := fun e => by have := beq_iff_eq.1 e; omega
    rw [Go.Lib.splitK, if_neg hne, hj] at ih
    rw [Go.Lib.splitK, if_neg hne2, hix2, ← ih]
    simp
   rw [Go.Lib.count_miss hm] at ih ⊢
   have e : spl c l = [l] := ih.symm
   rw [e]
   rfl
  subst h
  rw [Go.Lib.count_cons_eq, Nat.add_comm, spl, if_pos rfl, ← ih]
  have hix : Go.Lib.index (b :: l) [b] = 0 := by rw [Go.Lib.index]; simp [List.isPrefixOf]
  rw [Go.Lib.splitK, hix]
  rfl
theorem split_f (s : ByteArray) (hs : (s.size : Int) ≤ 1048576) (c : UInt8) : strings_Split.f s (Bs [c]) = some ((spl c s.data.toList).map Bs) := by
 unfold strings_Split.f
 rw [if_pos ⟨by omega, by rw [br_]; simp⟩]
 congr 1
 have h := Go.Lib.splitB_data (Bs [c]) 0 (Go.Lib.countB s (Bs [c])) s
 have e : (Bs [c]).data.toList = [c] := Bs_list _
 unfold Go.Lib.countB at h
 rw [e, splitK_eq] at h
 rw [← h, List.map_map]
 unfold Go.Lib.countB
 rw [e]
 conv => lhs; rw [← List.map_id (Go.Lib.splitB (Bs [c]) 0 (Go.Lib.count s.data.toList [c]) s)]
 apply List.map_congr_left
 intro x _
 exact (Bs_data x).symm
theorem split_spec (L : List UInt8) (hL : (L.length : Int) ≤ 1048576) (c : UInt8) : Ev (fun k => aL_.f k (Bs L) (c.toNat : Int)) ((spl c L).map Bs) := by
 have ex : ∀ (a p q : List UInt8) (n m : Nat), L = a ++ p ++ q → a.length = n → n + p.length = m → (Bs L).extract n m = Bs p := fun a p q n m h1 h2 h3 => by
  rw [← Bs_data ((Bs L).extract n m), Go.Lib.extract_data, Bs_list, h1]
  congr 1
  subst h2 h3
  simp
 have go : ∀ (q p a : List UInt8) (x5 : List ByteArray), L = a ++ p ++ q → x5.length ≤ a.length → Ev (fun k => aL_.l0 k (Bs L) (c.toNat : Int) x5 (a.length : Int) ((a.length + p.length : Nat) : Int)) (x5 ++ (glue p (spl c q)).map Bs) := by
  intro q
  induction q with
  | nil =>
   intro p a x5 h h5
   have hl : L.length = a.length + p.length := by rw [h]; simp
   refine aV_ ?_
   simp only [aL_.l0]
   rw [br_]
   refine Ev_f (by omega) (Ev_t (by omega) (Ev_t (by omega) (Ev_t (by omega) (Ev_n ?_))))
   rw [Int.toNat_natCast, ex a p [] a.length L.length h rfl hl.symm]
   simp [spl, glue]
  | cons b q ih =>
   intro p a x5 h h5
   have hl : L.length = a.length + p.length + (q.length + 1) := by rw [h]; simp; omega
   have hb : bt (Bs L) ((a.length + p.length : Nat) : Int) = (b.toNat : Int) := by
    rw [bt_in L (a.length + p.length) (by omega)]
    congr 2
    simp [h]
   refine aV_ ?_
   simp only [aL_.l0]
   rw [hb, br_]
   refine Ev_t (by omega) (Ev_t (by omega) ?_)
   by_cases hc : b = c
   rotate_left
   ·refine Ev_f (fun e => hc ?_) ?_
    ·apply UInt8.toNat.inj
     omega
    ·rw [wr64s (a.length + p.length) (by omega), glue_cons p b c q hc]
     have := ih (p ++ [b]) a x5 (by rw [h]; simp) h5
     simpa [Nat.add_assoc] using this
   subst hc
   refine Ev_t rfl (Ev_t (by omega) (Ev_t (by omega) (Ev_t (by omega) (Ev_t (by omega) ?_))))
   rw [Int.toNat_natCast, Int.toNat_natCast, ex a p (b :: q) a.length (a.length + p.length) h rfl rfl, wr64s (a.length + p.length) (by omega)]
   have := ih [] (a ++ p ++ [b]) (x5 ++ [Bs p]) (by rw [h]; simp) (by simp; omega)
   rw [glue_nil _ (spl_ne b q)] at this
   rw [spl, if_pos rfl]
   simpa [glue, Nat.add_assoc] using this
 have := go L [] [] [] rfl (by simp)
 rw [glue_nil _ (spl_ne c L)] at this
 simp only [aL_.f]
 simpa using this
theorem rdO_in (l : List ByteArray) (i : Nat) (h : i < l.length) : rdOf ByteArray.empty l (i : Int) = l[i] := by unfold rdOf; exact getD_in l _ i h
theorem bits16 (op : BinOp) (hop : op = .xor ∨ op = .and) (a b : Int) (ha : 0 ≤ a) (ha2 : a < 131072) (hb : 0 ≤ b) (hb2 : b < 65536) (h : op = .xor → a < 65536) : 0 ≤ Go.bits op .i64 a b ∧ Go.bits op .i64 a b < 65536 := by
 obtain ⟨x, rfl⟩ := Int.eq_ofNat_of_zero_le ha
 obtain ⟨y, rfl⟩ := Int.eq_ofNat_of_zero_le hb
 have hx : x % 2 ^ IntKind.i64.bits = x := Nat.mod_eq_of_lt (by show x < 2 ^ 64; omega)
 have hy : y % 2 ^ IntKind.i64.bits = y := Nat.mod_eq_of_lt (by show y < 2 ^ 64; omega)
 have key : ∀ n : Nat, n < 65536 → 0 ≤ IntKind.i64.wrap (n : Int) ∧ IntKind.i64.wrap (n : Int) < 65536 := fun n hn => by
  rw [IntKind.wrap_i64]
  omega
 rcases hop with rfl | rfl
 ·have hx2 : x < 2 ^ 16 := by have := h rfl; omega
  have := Nat.xor_lt_two_pow (n := 16) hx2 (show y < 2 ^ 16 by omega)
  have := key _ this
  simpa only [bits, BitVec.ofInt_natCast, BitVec.toNat_xor, BitVec.toNat_ofNat, hx, hy] using this
 ·have := Nat.and_lt_two_pow x (show y < 2 ^ 16 by omega)
  have := key _ this
  simpa only [bits, BitVec.ofInt_natCast, BitVec.toNat_and, BitVec.toNat_ofNat, hx, hy] using this
theorem bt_256 (x : ByteArray) (i : Int) : 0 ≤ bt x i ∧ bt x i < 256 := by
 unfold bt
 split
 ·rename_i h
  have := UInt8.toNat_lt (x[i.toNat]'h)
  omega
 ·omega
theorem crc_ev (x : ByteArray) (hx : (x.size : Int) ≤ 1048576) : ∃ r : Int, 0 ≤ r ∧ r ≤ 65535 ∧ Ev (fun k => aH_.f k x 65535) r ∧ Ev (fun k => aP_.f k x 65535) r := by
 have inner : ∀ (i : Nat), (i : Int) + 1 ≤ 1048577 → (∀ c : Int, 0 ≤ c → c ≤ 65535 → ∃ r : Int, 0 ≤ r ∧ r ≤ 65535 ∧ Ev (fun k => aH_.l0 k x c ((i + 1 : Nat) : Int)) r ∧ Ev (fun k => aP_.l0 k x c ((i + 1 : Nat) : Int)) r) → ∀ (d j : Nat), j + d = 8 → ∀ c : Int, 0 ≤ c → c ≤ 65535 → ∃ r : Int, 0 ≤ r ∧ r ≤ 65535 ∧ Ev (fun k => aH_.l1 k x c i j) r ∧ Ev (fun k => aP_.l1 k x c i j) r := by
  intro i hi nx d
  induction d with
  | zero =>
   intro j hj c c0 c1
   obtain ⟨r, r0, r1, r2, r3⟩ := nx c c0 c1
   refine ⟨r, r0, r1, aV_ ?_, aV_ ?_⟩
   ·simp only [aH_.l1]; rw [wr64s i (by omega)]; exact Ev_f (by omega) r2
   ·simp only [aP_.l1]; rw [wr64s i (by omega)]; exact Ev_f (by omega) r3
  | succ d ih =>
   intro j hj c c0 c1
   have e2 : wrap64 (c * 2) = c * 2 := wr64 (by omega) (by omega)
   by_cases h : c * 2 > 65535
   rotate_left
   ·obtain ⟨r, r0, r1, r2, r3⟩ := ih (j + 1) (by omega) (c * 2) (by omega) (by omega)
    refine ⟨r, r0, r1, aV_ ?_, aV_ ?_⟩
    ·simp only [aH_.l1]; rw [e2, wr64s j (by omega)]; exact Ev_t (by omega) (Ev_f h r2)
    ·simp only [aP_.l1]; rw [e2, wr64s j (by omega)]; exact Ev_t (by omega) (Ev_f h r3)
   have b1 := bits16 .and (.inr rfl) (c * 2) 65535 (by omega) (by omega) (by omega) (by omega) (fun q => by cases q)
   have b2 := bits16 .xor (.inl rfl) (Go.bits .and .i64 (c * 2) 65535) 4129 b1.1 (by omega) (by omega) (by omega) (fun _ => b1.2)
   obtain ⟨r, r0, r1, r2, r3⟩ := ih (j + 1) (by omega) _ b2.1 (by omega)
   refine ⟨r, r0, r1, aV_ ?_, aV_ ?_⟩
   ·simp only [aH_.l1]; rw [e2, wr64s j (by omega)]; exact Ev_t (by omega) (Ev_t h r2)
   ·simp only [aP_.l1]; rw [e2, wr64s j (by omega)]; exact Ev_t (by omega) (Ev_t h r3)
 have outer : ∀ (d i : Nat), i + d = x.size → ∀ c : Int, 0 ≤ c → c ≤ 65535 → ∃ r : Int, 0 ≤ r ∧ r ≤ 65535 ∧ Ev (fun k => aH_.l0 k x c i) r ∧ Ev (fun k => aP_.l0 k x c i) r := by
  intro d
  induction d with
  | zero =>
   intro i hi c c0 c1
   refine ⟨c, c0, c1, aV_ ?_, aV_ ?_⟩
   ·simp only [aH_.l0]; exact Ev_f (by omega) (Ev_n rfl)
   ·simp only [aP_.l0]; exact Ev_f (by omega) (Ev_n rfl)
  | succ d ih =>
   intro i hi c c0 c1
   have hb := bt_256 x i
   have e1 : wrap64 (bt x i) = bt x i := wr64 (by omega) (by omega)
   have e2 : wrap64 (bt x i * 256) = bt x i * 256 := wr64 (by omega) (by omega)
   have b2 := bits16 .xor (.inl rfl) c (bt x i * 256) c0 (by omega) (by omega) (by omega) (fun _ => by omega)
   obtain ⟨r, r0, r1, r2, r3⟩ := inner i (by omega) (fun c q0 q1 => ih (i + 1) (by omega) c q0 q1) 8 0 (by omega) _ b2.1 (by omega)
   refine ⟨r, r0, r1, aV_ ?_, aV_ ?_⟩
   ·simp only [aH_.l0]; rw [e1, e2]; exact Ev_t (by omega) (Ev_t (by omega) r2)
   ·simp only [aP_.l0]; rw [e1, e2]; exact Ev_t (by omega) (Ev_t (by omega) r3)
 obtain ⟨r, r0, r1, r2, r3⟩ := outer x.size 0 (by omega) 65535 (by omega) (by omega)
 refine ⟨r, r0, r1, ?_, ?_⟩
 ·simp only [aH_.f]; exact r2
 ·simp only [aP_.f]
  have : bR_.f 65535 0 65535 = some true := by decide
  exact Ev_b (Ev_c this) (Ev_t rfl r3)
def five (n : Int) : ByteArray := Bs (List.replicate (5 - (Go.Lib.itoa n).length) 48 ++ Go.Lib.itoa n)
theorem itoa5 (n : Int) (h0 : 0 ≤ n) (h1 : n ≤ 65535) : (Go.Lib.itoa n).length ≤ 5 := by
 obtain ⟨u, rfl⟩ := Int.eq_ofNat_of_zero_le h0
 have : Go.Lib.itoa (u : Int) = Go.Lib.decDigits u := Go.Lib.itoa_nonneg u
 rw [this]
 have key : ∀ (k u : Nat), u < 10 ^ k → 1 ≤ k → (Go.Lib.decDigits u).length ≤ k := by
  intro k
  induction k with
  | zero => intro u h hk; omega
  | succ k ih =>
   intro u h hk
   rw [Go.Lib.decDigits]
   split
   ·simp
   ·rename_i hu
    have h2 : 1 ≤ k := by
     rcases Nat.eq_zero_or_pos k with rfl | h
     ·simp at h; omega
     ·exact h
    have := ih (u / 10) (by rw [Nat.pow_succ] at h; omega) h2
    simp
    omega
 exact key 5 u (by omega) (by omega)
theorem five_spec (n : Int) (h0 : 0 ≤ n) (h1 : n ≤ 65535) : Ev (fun k => aY_.f k n) (five n) := by
 have h5 := itoa5 n h0 h1
 have go : ∀ (d m : Nat), m + d = 5 - (Go.Lib.itoa n).length → Ev (fun k => aY_.l0 k (Bs (List.replicate m 48 ++ Go.Lib.itoa n))) (five n) := by
  intro d
  induction d with
  | zero =>
   intro m h
   refine aV_ ?_
   simp only [aY_.l0]
   refine Ev_f ?_ (Ev_n (by unfold five; rw [show m = 5 - (Go.Lib.itoa n).length by omega]))
   rw [br_]
   simp
   omega
  | succ d ih =>
   intro m h
   refine aV_ ?_
   simp only [aY_.l0]
   have hs : (Bs (List.replicate m 48 ++ Go.Lib.itoa n)).size = m + (Go.Lib.itoa n).length := by rw [br_]; simp
   have e : (⟨#[48]⟩ : ByteArray) ++ Bs (List.replicate m 48 ++ Go.Lib.itoa n) = Bs (List.replicate (m + 1) 48 ++ Go.Lib.itoa n) := by
    have : (⟨#[48]⟩ : ByteArray) = Bs [48] := rfl
    rw [this, Bs_app, List.replicate_succ]
    rfl
   rw [hs, e]
   exact Ev_t (by omega) (Ev_t (by omega) (ih (m + 1) (by omega)))
 simp only [aY_.f]
 refine Ev_b (dec_ev n (by omega) (by omega)) ?_
 have := go _ 0 (Nat.zero_add _)
 simpa [its] using this
theorem five_impl (x : ByteArray) (n : Int) (h0 : 0 ≤ n) (h1 : n ≤ 65535) (h : Ev (fun k => aP_.f k x 65535) n) : Ev (fun k => bk_.f k x) (five n) := by
 have h5 := itoa5 n h0 h1
 have hs : (its n).size = (Go.Lib.itoa n).length := by unfold its; rw [br_]
 have hz : (⟨#[48, 48, 48, 48, 48]⟩ : ByteArray) = Bs [48, 48, 48, 48, 48] := rfl
 simp only [bk_.f]
 refine Ev_b h (Ev_b (Ev_c (Decimal_f n (by omega) (by omega))) ?_)
 rw [hs, Int.toNat_natCast]
 have e : (⟨#[48, 48, 48, 48, 48]⟩ : ByteArray).extract (Go.Lib.itoa n).length (⟨#[48, 48, 48, 48, 48]⟩ : ByteArray).size = Bs (List.replicate (5 - (Go.Lib.itoa n).length) 48) := by
  rw [hz, ← Bs_data ((Bs [48, 48, 48, 48, 48]).extract _ _), Go.Lib.extract_data, Bs_list, br_]
  congr 1
  generalize (Go.Lib.itoa n).length = m at h5
  have : m = 0 ∨ m = 1 ∨ m = 2 ∨ m = 3 ∨ m = 4 ∨ m = 5 := by omega
  rcases this with rfl | rfl | rfl | rfl | rfl | rfl <;> rfl
 rw [e]
 refine Ev_t (by omega) (Ev_t (by omega) (Ev_t ?_ (Ev_n ?_)))
 ·rw [br_]; simp; omega
 ·unfold five its; rw [Bs_app]
theorem index_miss (c : UInt8) : ∀ Y : List UInt8, c ∉ Y → Go.Lib.index Y [c] = -1
 | [], _ => by simp [Go.Lib.index]
 | b :: Y, h => by
  have hb : ¬ c = b := fun e => h (by simp [e])
  have ih := index_miss c Y (fun q => h (by simp [q]))
  have hp : ([c] : List UInt8).isPrefixOf (b :: Y) = false := by simp [List.isPrefixOf, hb]
  rw [Go.Lib.index, hp, ih]
  simp
theorem index_hit (c : UInt8) : ∀ A B : List UInt8, c ∉ A → Go.Lib.index (A ++ c :: B) [c] = (A.length : Int)
 | [], B, _ => by rw [List.nil_append, Go.Lib.index]; simp [List.isPrefixOf]
 | b :: A, B, h => by
  have hb : ¬ c = b := fun e => h (by simp [e])
  have ih := index_hit c A B (fun q => h (by simp [q]))
  have hp : ([c] : List UInt8).isPrefixOf (b :: (A ++ c :: B)) = false := by simp [List.isPrefixOf, hb]
  rw [List.cons_append, Go.Lib.index, hp, ih]
  simp
theorem splitK_miss (c : UInt8) (Y : List UInt8) (h : c ∉ Y) (k : Nat) : Go.Lib.splitK [c] 0 k Y = [Y] := by
 cases k with
 | zero => rfl
 | succ k =>
  rw [Go.Lib.splitK, index_miss c Y h]; try rfl
theorem splitK_hit (c : UInt8) (A B : List UInt8) (h : c ∉ A) (k : Nat) : Go.Lib.splitK [c] 0 (k + 1) (A ++ c :: B) = A :: Go.Lib.splitK [c] 0 k B := by
 have hne : ¬ (((A.length : Nat) : Int) == -1) = true := fun e => by have := beq_iff_eq.1 e; omega
 rw [Go.Lib.splitK, index_hit c A B h, if_neg hne]
 simp
theorem splitN_f (Y : List UInt8) (hY : Y.length ≤ 1048576) (c : UInt8) : strings_SplitN.f (Bs Y) (Bs [c]) 3 = some ((Go.Lib.splitK [c] 0 (min 3 (Y.length + 1) - 1) Y).map Bs) := by
 unfold strings_SplitN.f
 rw [if_pos ⟨by rw [br_]; omega, by rw [br_]; simp, by omega, by omega⟩]
 congr 1
 have h := Go.Lib.splitB_data (Bs [c]) 0 (min 3 (Y.length + 1) - 1) (Bs Y)
 rw [Bs_list, Bs_list] at h
 rw [← h, List.map_map, br_]
 conv => lhs; rw [← List.map_id (Go.Lib.splitB _ _ _ _)]
 apply List.map_congr_left
 intro x _
 exact (Bs_data x).symm
theorem first_of (c : UInt8) : ∀ Y : List UInt8, c ∉ Y ∨ ∃ A B, Y = A ++ c :: B ∧ c ∉ A
 | [] => .inl (by simp)
 | b :: Y => by
  by_cases h : c = b
  rotate_left
  ·rcases first_of c Y with q | ⟨A, B, e, q⟩
   ·exact .inl (by simp [h, q])
   ·exact .inr ⟨b :: A, B, by simp [e], by simp [h, q]⟩
  exact .inr ⟨[], Y, by simp [h], by simp⟩
abbrev P4 := ByteArray × ByteArray × ByteArray × Int
theorem bt_ne (Y : List UInt8) (i : Nat) (h : i < Y.length) (hn : Y[i] ≠ 32) : ¬ bt (Bs Y) (i : Int) = 32 := by
 rw [bt_in Y i h]
 intro e
 exact hn ((u8_eq Y[i] 32 (by omega)).1 e)
theorem bt_sp (Y : List UInt8) (i : Nat) (h : i < Y.length) (hn : Y[i] = 32) : bt (Bs Y) (i : Int) = 32 := by
 rw [bt_in Y i h, hn]
 rfl
theorem seek0 (Y : List UInt8) (hY : Y.length ≤ 1048576) (r : P4) : ∀ (A P R : List UInt8), Y = P ++ A ++ R → (32 : UInt8) ∉ A → (R = [] ∨ ∃ B, R = 32 :: B) → Ev (fun k => ae_.j2 k (Bs Y) ((P.length + A.length : Nat) : Int)) r → Ev (fun k => ae_.l0 k (Bs Y) (P.length : Int)) r := by
 intro A
 induction A with
 | nil =>
  intro P R h hA hR hj
  refine aV_ ?_
  simp only [ae_.l0]
  rw [br_]
  have hl : Y.length = P.length + R.length := by rw [h]; simp
  rcases hR with rfl | ⟨B, rfl⟩
  ·exact Ev_f (by simp at hl; omega) (by simpa using hj)
  ·simp only [List.length_cons] at hl
   refine Ev_t (by omega) (Ev_t (by omega) (Ev_t (bt_sp Y P.length (by omega) (by simp [h])) (by simpa using hj)))
 | cons b A ih =>
  intro P R h hA hR hj
  refine aV_ ?_
  simp only [ae_.l0]
  rw [br_]
  have hl : Y.length = P.length + (A.length + 1) + R.length := by rw [h]; simp; omega
  refine Ev_t (by omega) (Ev_t (by omega) (Ev_f (bt_ne Y P.length (by omega) (by simp [h]; exact fun e => hA (by simp [e]))) ?_))
  rw [wr64s _ (by omega)]
  have := ih (P ++ [b]) R (by rw [h]; simp) (fun q => hA (by simp [q])) hR (by
   have e : (P ++ [b]).length + A.length = P.length + (b :: A).length := by simp; omega
   rw [e]; exact hj)
  simpa using this
theorem seek1 (Y : List UInt8) (hY : Y.length ≤ 1048576) (x5 : Int) (r : P4) : ∀ (A P R : List UInt8), Y = P ++ A ++ R → (32 : UInt8) ∉ A → (R = [] ∨ ∃ B, R = 32 :: B) → Ev (fun k => ae_.j4 k (Bs Y) x5 ((P.length + A.length : Nat) : Int)) r → Ev (fun k => ae_.l1 k (Bs Y) x5 (P.length : Int)) r := by
 intro A
 induction A with
 | nil =>
  intro P R h hA hR hj
  refine aV_ ?_
  simp only [ae_.l1]
  rw [br_]
  have hl : Y.length = P.length + R.length := by rw [h]; simp
  rcases hR with rfl | ⟨B, rfl⟩
  ·exact Ev_f (by simp at hl; omega) (by simpa using hj)
  ·simp only [List.length_cons] at hl
   refine Ev_t (by omega) (Ev_t (by omega) (Ev_t (bt_sp Y P.length (by omega) (by simp [h])) (by simpa using hj)))
 | cons b A ih =>
  intro P R h hA hR hj
  refine aV_ ?_
  simp only [ae_.l1]
  rw [br_]
  have hl : Y.length = P.length + (A.length + 1) + R.length := by rw [h]; simp; omega
  refine Ev_t (by omega) (Ev_t (by omega) (Ev_f (bt_ne Y P.length (by omega) (by simp [h]; exact fun e => hA (by simp [e]))) ?_))
  rw [wr64s _ (by omega)]
  have := ih (P ++ [b]) R (by rw [h]; simp) (fun q => hA (by simp [q])) hR (by
   have e : (P ++ [b]).length + A.length = P.length + (b :: A).length := by simp; omega
   rw [e]; exact hj)
  simpa using this
abbrev no4 (c : Int) : P4 := ((⟨#[]⟩ : ByteArray), (⟨#[]⟩ : ByteArray), (⟨#[]⟩ : ByteArray), c)
theorem ext3 (Y : List UInt8) (n m : Nat) (a p q : List UInt8) (h : Y = a ++ p ++ q) (h1 : a.length = n) (h2 : n + p.length = m) : (Bs Y).extract n m = Bs p := by
 rw [← Bs_data ((Bs Y).extract n m), Go.Lib.extract_data, Bs_list, h]
 congr 1
 subst h1 h2
 simp
theorem rest_ev (Y : List UInt8) (hY : Y.length ≤ 1048576) : ∃ r : P4, Ev (fun k => ae_.l0 k (Bs Y) 0) r ∧
  ((∃ A C D, Y = A ++ 32 :: (C ++ 32 :: D) ∧ strings_SplitN.f (Bs Y) (⟨#[32]⟩ : ByteArray) 3 = some [Bs A, Bs C, Bs D] ∧ ∃ b, (∀ k, 2000000 < k → aD_.f k (Bs A) (Bs C) (Bs D) = some b ∧ aC_.f k [⟨Bs A, Bs C, Bs D⟩] = some b) ∧ r = if b = true then (Bs A, Bs C, Bs D, 0) else no4 9) ∨
   (∃ l : List ByteArray, l.length < 3 ∧ strings_SplitN.f (Bs Y) (⟨#[32]⟩ : ByteArray) 3 = some l ∧ r = no4 9)) := by
 have hs : (⟨#[32]⟩ : ByteArray) = Bs [32] := rfl
 rw [hs, splitN_f Y hY 32]
 rcases first_of 32 Y with h | ⟨A, B, h, hA⟩
 ·refine ⟨no4 9, ?_, .inr ⟨_, ?_, rfl, rfl⟩⟩
  ·refine seek0 Y hY _ Y [] [] (by simp) h (.inl rfl) (aV_ ?_)
   simp only [ae_.j2]
   simp only [List.length_nil, Nat.zero_add]
   rw [wr64s _ (by omega)]
   refine aV_ ?_
   simp only [ae_.l1]
   rw [br_]
   refine Ev_f (by omega) (aV_ ?_)
   simp only [ae_.j4]
   rw [br_]
   exact Ev_t (by omega) (Ev_n rfl)
  ·rw [splitK_miss 32 Y h]; simp
 ·have hlA : Y.length = A.length + 1 + B.length := by rw [h]; simp; omega
  have sk : ∀ r, Ev (fun k => ae_.l1 k (Bs Y) (A.length : Int) ((A.length + 1 : Nat) : Int)) r → Ev (fun k => ae_.l0 k (Bs Y) 0) r := fun r hr => by
   refine seek0 Y hY r A [] (32 :: B) (by simp [h]) hA (.inr ⟨B, rfl⟩) (aV_ ?_)
   simp only [ae_.j2]
   simp only [List.length_nil, Nat.zero_add]
   rw [wr64s _ (by omega)]
   exact hr
  obtain ⟨m, hm⟩ : ∃ m, min 3 (Y.length + 1) - 1 = m + 1 := ⟨min 3 (Y.length + 1) - 2, by omega⟩
  rw [hm, h, splitK_hit 32 A B hA, ← h]
  rcases first_of 32 B with hB | ⟨C, D, hB, hC⟩
  ·refine ⟨no4 9, sk _ ?_, .inr ⟨_, ?_, rfl, rfl⟩⟩
   ·have := seek1 Y hY (A.length : Int) (no4 9) B (A ++ [32]) [] (by simp [h]) hB (.inl rfl) (aV_ (by
     simp only [ae_.j4]
     rw [br_]
     exact Ev_t (by simp; omega) (Ev_n rfl)))
    simpa using this
   ·rw [splitK_miss 32 B hB]; simp
  ·have hlB : B.length = C.length + 1 + D.length := by rw [hB]; simp; omega
   have hm1 : m = 1 := by omega
   subst hm1
   rw [hB, splitK_hit 32 C D hC, Go.Lib.splitK]
   have hh : Y = A ++ 32 :: (C ++ 32 :: D) := by rw [h, hB]
   obtain ⟨b, hb⟩ := validB_ev (⟨Bs A, Bs C, Bs D⟩ : S43) (by show ((Bs D).size : Int) ≤ 1048576; rw [br_]; omega)
   refine ⟨if b = true then (Bs A, Bs C, Bs D, 0) else no4 9, sk _ ?_, .inl ⟨A, C, D, hh, by simp, b, fun k hk => ⟨(hb k hk).2, (hb k hk).1⟩, rfl⟩⟩
   have := seek1 Y hY (A.length : Int) (if b = true then (Bs A, Bs C, Bs D, 0) else no4 9) C (A ++ [32]) (32 :: D) (by simp [hh]) hC (.inr ⟨D, rfl⟩) (aV_ (by
    simp only [ae_.j4]
    rw [br_]
    have e1 : ((A ++ [32]).length + C.length : Nat) = A.length + 1 + C.length := by simp
    rw [e1, wr64s A.length (by omega), wr64s (A.length + 1 + C.length) (by omega)]
    refine Ev_f (by omega) (Ev_t (by omega) (Ev_t (by omega) (Ev_s (Ev_t (by omega) (Ev_t (by omega) (Ev_t (by omega) (Ev_s (Ev_t (by omega) (Ev_t (by omega) (Ev_s ?_))))))))))
    rw [Int.toNat_natCast, Int.toNat_natCast, Int.toNat_natCast, Int.toNat_natCast]
    rw [ext3 Y 0 A.length [] A (32 :: (C ++ 32 :: D)) (by simp [hh]) rfl (by simp)]
    rw [ext3 Y (A.length + 1) (A.length + 1 + C.length) (A ++ [32]) C (32 :: D) (by simp [hh]) (by simp) rfl]
    rw [ext3 Y (A.length + 1 + C.length + 1) Y.length (A ++ [32] ++ C ++ [32]) D [] (by simp [hh]) (by simp; omega) (by omega)]
    refine Ev_b (a := b) ⟨2000001, fun k hk => (hb k (by omega)).1⟩ ?_
    cases b with
    | true => exact Ev_t rfl (Ev_n rfl)
    | false => exact Ev_f (by decide) (Ev_n rfl)))
   simpa using this
theorem parse_ev (x : ByteArray) (hx : (x.size : Int) ≤ 1048576) : ∃ r : P4, Ev (fun k => ae_.f k x) r ∧ Ev (fun k => ar_.f k x) r ∧ (r.2.2.1.size : Int) ≤ 1048576 ∧ (r.2.2.2 = 0 → ∀ k, 2000000 < k → aD_.f k r.1 r.2.1 r.2.2.1 = some true ∧ aC_.f k [⟨r.1, r.2.1, r.2.2.1⟩] = some true) ∧ (r.2.2.2 ≠ 0 → r = no4 r.2.2.2) := by
 have no9 : Ev (fun k => ae_.j0 k x true) (no4 9) ∧ Ev (fun k => ar_.j0 k x true) (no4 9) := by
  constructor
  ·refine aV_ ?_; simp only [ae_.j0]; exact Ev_t (by first | exact True.intro | rfl) (Ev_n rfl)
  ·refine aV_ ?_; simp only [ar_.j0]; exact Ev_t (by first | exact True.intro | rfl) (Ev_n rfl)
 have bad : ∀ c : Int, c ≠ 0 → ((no4 c).2.2.1.size : Int) ≤ 1048576 ∧ ((no4 c).2.2.2 = 0 → ∀ k, 2000000 < k → aD_.f k (no4 c).1 (no4 c).2.1 (no4 c).2.2.1 = some true ∧ aC_.f k [⟨(no4 c).1, (no4 c).2.1, (no4 c).2.2.1⟩] = some true) ∧ ((no4 c).2.2.2 ≠ 0 → no4 c = no4 (no4 c).2.2.2) := fun c hc => ⟨by show ((0 : Nat) : Int) ≤ 1048576; omega, fun h => absurd h hc, fun _ => rfl⟩
 simp only [ae_.f, ar_.f]
 by_cases h6 : (x.size : Int) < 6
 ·exact ⟨no4 9, Ev_t h6 no9.1, Ev_t h6 no9.2, bad 9 (by decide)⟩
 by_cases h5 : (bt x 5 != 32) = true
 ·exact ⟨no4 9, Ev_f h6 (Ev_t (by omega) (by rw [h5]; exact no9.1)), Ev_f h6 (Ev_t (by omega) (by rw [h5]; exact no9.2)), bad 9 (by decide)⟩
 have h5' : (bt x 5 != 32) = false := by simpa using h5
 rw [h5']
 obtain ⟨Y, hY⟩ : ∃ Y, Y = (x.extract 6 x.size).data.toList := ⟨_, rfl⟩
 have hB : x.extract 6 x.size = Bs Y := by rw [hY, Bs_data]
 have hYl : Y.length ≤ 1048576 := by
  have : (Bs Y).size = Y.length := br_ Y
  rw [← hB, ByteArray.size_extract] at this
  omega
 obtain ⟨n, n0, n1, c1, c2⟩ := crc_ev (Bs Y) (by rw [br_]; omega)
 have f1 := five_spec n n0 n1
 have f2 := five_impl (Bs Y) n n0 n1 c2
 have go : ∃ r : P4, Ev (fun k => ae_.j0 k x false) r ∧ Ev (fun k => ar_.j0 k x false) r ∧ (r.2.2.1.size : Int) ≤ 1048576 ∧ (r.2.2.2 = 0 → ∀ k, 2000000 < k → aD_.f k r.1 r.2.1 r.2.2.1 = some true ∧ aC_.f k [⟨r.1, r.2.1, r.2.2.1⟩] = some true) ∧ (r.2.2.2 ≠ 0 → r = no4 r.2.2.2) := by
  by_cases hd : (x.extract 0 5).toList = (five n).toList
  case neg =>
   refine ⟨no4 10, aV_ ?_, aV_ ?_, bad 10 (by decide)⟩
   ·simp only [ae_.j0]
    rw [hB]
    exact Ev_f (by decide) (Ev_t (by omega) (Ev_s (Ev_t (by omega) (Ev_b c1 (Ev_b f1 (Ev_f hd (Ev_n rfl)))))))
   ·simp only [ar_.j0]
    rw [hB]
    exact Ev_f (by decide) (Ev_t (by omega) (Ev_s (Ev_t (by omega) (Ev_b f2 (Ev_f hd (Ev_n rfl))))))
  obtain ⟨r, s1, hr⟩ := rest_ev Y hYl
  have sp : Ev (fun k => ae_.j0 k x false) r := by
   refine aV_ ?_
   simp only [ae_.j0]
   rw [hB]
   exact Ev_f (by decide) (Ev_t (by omega) (Ev_s (Ev_t (by omega) (Ev_b c1 (Ev_b f1 (Ev_t hd s1))))))
  rcases hr with ⟨A, C, D, hYe, hsp, b, hb, rfl⟩ | ⟨l, hl, hsp, rfl⟩
  ·have e0 : rdOf ByteArray.empty [Bs A, Bs C, Bs D] 0 = Bs A := rfl
   have e1 : rdOf ByteArray.empty [Bs A, Bs C, Bs D] 1 = Bs C := rfl
   have e2 : rdOf ByteArray.empty [Bs A, Bs C, Bs D] 2 = Bs D := rfl
   have ip : Ev (fun k => ar_.j0 k x false) (if b = true then (Bs A, Bs C, Bs D, 0) else no4 9) := by
    refine aV_ ?_
    simp only [ar_.j0]
    rw [hB]
    refine Ev_f (by decide) (Ev_t (by omega) (Ev_s (Ev_t (by omega) (Ev_b f2 (Ev_t hd (Ev_b (Ev_c hsp) ?_))))))
    have l3 : ((([Bs A, Bs C, Bs D] : List ByteArray).length : Nat) : Int) = 3 := rfl
    rw [l3]
    refine Ev_f (by decide) (Ev_t (by decide) (Ev_t (by decide) (Ev_t (by decide) ?_)))
    rw [e0, e1, e2]
    refine Ev_b (a := b) ⟨2000001, fun k hk => (hb k (by omega)).1⟩ ?_
    cases b with
    | true => exact Ev_t rfl (Ev_n rfl)
    | false => exact Ev_f (by decide) (Ev_n rfl)
   cases b with
   | false => exact ⟨no4 9, sp, ip, bad 9 (by decide)⟩
   | true =>
    refine ⟨(Bs A, Bs C, Bs D, 0), sp, ip, ?_, fun _ k hk => hb k hk, fun h => absurd rfl h⟩
    show ((Bs D).size : Int) ≤ 1048576
    rw [br_]
    have : Y.length = A.length + 1 + (C.length + 1 + D.length) := by rw [hYe]; simp; omega
    omega
  ·refine ⟨no4 9, sp, aV_ ?_, bad 9 (by decide)⟩
   simp only [ar_.j0]
   rw [hB]
   exact Ev_f (by decide) (Ev_t (by omega) (Ev_s (Ev_t (by omega) (Ev_b f2 (Ev_t hd (Ev_b (Ev_c hsp) (Ev_t (by omega) (Ev_n rfl))))))))
 obtain ⟨r, g1, g2, g3⟩ := go
 exact ⟨r, Ev_f h6 (Ev_t (by omega) g1), Ev_f h6 (Ev_t (by omega) g2), g3⟩
theorem spl_part (c : UInt8) : ∀ (l x : List UInt8), x ∈ spl c l → x.length ≤ l.length
 | [], x, h => by simp [spl] at h; simp [h]
 | b :: l, x, h => by
  rw [spl] at h
  split at h
  ·rcases List.mem_cons.1 h with rfl | h
   ·simp
   ·have := spl_part c l x h; simp; omega
  ·cases hs : spl c l with
   | nil => exact absurd hs (spl_ne c l)
   | cons a t =>
    rw [hs] at h
    simp only at h
    rcases List.mem_cons.1 h with rfl | h
    ·have := spl_part c l a (by rw [hs]; simp); simp; omega
    ·have := spl_part c l x (by rw [hs]; simp [h]); simp; omega
def lns (s : ByteArray) : List ByteArray := (spl 10 s.data.toList).map Bs
theorem lns_len (s : ByteArray) : 1 ≤ (lns s).length ∧ (lns s).length ≤ s.size + 1 := by
 unfold lns
 rw [List.length_map]
 have h1 := spl_len 10 s.data.toList
 have h2 := spl_ne 10 s.data.toList
 have h3 : s.data.toList.length = s.size := by rw [Array.length_toList]; rfl
 have h4 : 0 < (spl 10 s.data.toList).length := List.length_pos_iff.2 h2
 omega
theorem lns_size (s x : ByteArray) (h : x ∈ lns s) : x.size ≤ s.size := by
 unfold lns at h
 obtain ⟨y, hy, rfl⟩ := List.mem_map.1 h
 have := spl_part 10 _ y hy
 rw [br_]
 have h3 : s.data.toList.length = s.size := by rw [Array.length_toList]; rfl
 omega
theorem split_i (s : ByteArray) (hs : (s.size : Int) ≤ 1048576) : strings_Split.f s (⟨#[10]⟩ : ByteArray) = some (lns s) := split_f s hs 10
theorem split_s (s : ByteArray) (hs : (s.size : Int) ≤ 1048576) : Ev (fun k => aL_.f k s 10) (lns s) := by
 have h3 : s.data.toList.length = s.size := by rw [Array.length_toList]; rfl
 have := split_spec s.data.toList (by omega) 10
 rw [Bs_data] at this
 exact this
theorem lines_ev (s : ByteArray) (hs : (s.size : Int) ≤ 1048576) (n : Nat) (hn : n + 1 = (lns s).length) : Ev (fun k => bB_.f k s) ((lns s).take n, (rdOf ByteArray.empty (lns s) (n : Int)).toList == ([] : List UInt8)) := by
 have hl := lns_len s
 have e : wrap64 (((lns s).length : Int) - 1) = (n : Int) := by rw [wr64 (by omega) (by omega)]; omega
 simp only [bB_.f]
 refine Ev_b (split_s s hs) ?_
 rw [e]
 exact Ev_t (by omega) (Ev_t (by omega) (Ev_t (by omega) (Ev_n (by rw [Int.toNat_natCast]))))
def Vb (b : Blk) : Prop := (b.f2.size : Int) ≤ 1048576 ∧ ∀ k, 2000000 < k → aD_.f k b.f0 b.f1 b.f2 = some true ∧ aC_.f k [b] = some true
def VB (m : List Blk) : Prop := m.length ≤ 32 ∧ m.Pairwise (fun x y => cB (ckB x) (ckB y) < 0) ∧ ∀ y ∈ m, Vb y
theorem VB_ok (m : List Blk) (h : VB m) : Ev (fun k => aK_.f k m) true ∧ Ev (fun k => al_.f k m) true ∧ ∀ t, Rsg (fun x => cB (ckB x) t) m := by
 obtain ⟨h1, h2, h3⟩ := h
 have go : ∀ (d i : Nat), i + d = m.length → Ev (fun k => aK_.l0 k m i) true := by
  intro d
  induction d with
  | zero =>
   intro i hi
   refine aV_ ?_
   simp only [aK_.l0]
   exact Ev_f (by omega) (Ev_n (decide_eq_true (by omega)))
  | succ d ih =>
   intro i hi
   have hv := h3 m[i] (List.getElem_mem _)
   have e1 : Ev (fun k => aC_.f k [m[i]]) true := ⟨2000001, fun k hk => (hv.2 k (by omega)).2⟩
   refine aV_ ?_
   simp only [aK_.l0]
   refine Ev_t (by omega) (Ev_t (by omega) ?_)
   rw [bC_ m i (by omega), wr64s i (by omega)]
   refine Ev_b e1 (Ev_t rfl ?_)
   by_cases h0 : i = 0
   rotate_left
   ·have ew : wrap64 ((i : Int) - 1) = ((i - 1 : Nat) : Int) := by rw [wr64 (by omega) (by omega)]; omega
    rw [ew, bC_ m (i - 1) (by omega)]
    have hc := (List.pairwise_iff_getElem.1 h2) (i - 1) i (by omega) (by omega) (by omega)
    refine Ev_t (by omega) (Ev_t (by omega) (Ev_t (by omega) (Ev_b (a := true) (Ev_c ?_) (Ev_t rfl (ih (i + 1) (by omega))))))
    rw [bfr_ev]
    simp [hc]
   exact Ev_f (by omega) (ih (i + 1) (by omega))
 have s1 : Ev (fun k => aK_.f k m) true := by simp only [aK_.f]; exact go m.length 0 (by omega)
 obtain ⟨b, e1, e2, e3⟩ := ok_ev m (by omega) (fun y hy => (h3 y hy).1)
 have := Ev_one e1 s1
 subst this
 exact ⟨s1, e2, (e3 rfl).2⟩
theorem putB_in (m : List Blk) (b x : Blk) (h : x ∈ putB m b) : x = b ∨ x ∈ m := by
 unfold putB at h
 split at h
 ·rcases List.mem_append.1 h with q | q
  ·exact .inr (List.mem_of_mem_take q)
  ·rcases List.mem_cons.1 q with q | q
   ·exact .inl q
   ·exact .inr (List.mem_of_mem_drop q)
 ·rcases List.mem_append.1 h with q | q
  ·exact .inr (List.mem_of_mem_take q)
  ·rcases List.mem_cons.1 q with q | q
   ·exact .inl q
   ·exact .inr (List.mem_of_mem_drop q)
theorem putB_VB (m : List Blk) (b : Blk) (h : VB m) (hb : Vb b) (hl : (putB m b).length ≤ 32) : VB (putB m b) := by
 refine ⟨hl, ?_, fun y hy => ?_⟩
 ·exact putG_pw (c := cB) (key := ckB) cB_ord h.2.1 b
 ·rcases putB_in m b y hy with rfl | q
  ·exact hb
  ·exact h.2.2 y q
theorem putV_ev (m : List Blk) (b : Blk) (h : VB m) (hb : Vb b) : Ev (fun k => ap_.f k m b.f0 b.f1 b.f2) (putB m b) ∧ ((putB m b).length ≤ 32 → Ev (fun k => aN_.f k m b.f0 b.f1 b.f2) (putB m b, 0)) ∧ (¬ (putB m b).length ≤ 32 → Ev (fun k => aN_.f k m b.f0 b.f1 b.f2) ([], 5)) := by
 obtain ⟨e1, e2, hr⟩ := VB_ok m h
 have hn := h.1
 have g2 : Ev (fun k => aD_.f k b.f0 b.f1 b.f2) true := ⟨2000001, fun k hk => (hb.2 k (by omega)).1⟩
 have f1 := put_ev m (by omega) b (hr _)
 have f2 : Ev (fun k => aq_.f k m b.f0 b.f1 b.f2) (((plc (fun x => cB (ckB x) (ckB b)) m : Nat) : Int), fnd (fun x => cB (ckB x) (ckB b)) m) := bs_ev m (by omega) b.f0 b.f1 b.f2 (hr _)
 have cl : bv_.f m = some m := by unfold bv_.f; rw [if_pos (by omega)]
 have hpl := plc_le (fun x => cB (ckB x) (ckB b)) m
 refine ⟨f1, ?_⟩
 cases hf : fnd (fun x => cB (ckB x) (ckB b)) m with
 | true =>
  obtain ⟨hp, _⟩ := fnd_t hf
  have ep : putB m b = m.take (plc (fun x => cB (ckB x) (ckB b)) m) ++ b :: m.drop (plc (fun x => cB (ckB x) (ckB b)) m + 1) := by unfold putB; rw [if_pos hf]
  have el : (putB m b).length = m.length := by rw [ep]; simp; omega
  rw [hf] at f2
  refine ⟨fun _ => ?_, fun q => by omega⟩
  simp only [aN_.f]
  refine Ev_b e2 (Ev_t rfl (Ev_b g2 (aV_ ?_)))
  simp only [aN_.j0]
  refine Ev_f (by decide) (Ev_b (Ev_c cl) (Ev_b f2 (Ev_t rfl (Ev_t (by show (0 : Int) ≤ _; omega) (Ev_t (by show _ < (m.length : Int); omega) (Ev_n ?_))))))
  rw [ep]
  simp only [Int.toNat_natCast, Prod.mk.injEq, and_true]
  rw [List.set_eq_take_append_cons_drop, if_pos hp]
 | false =>
  have ep : putB m b = m.take (plc (fun x => cB (ckB x) (ckB b)) m) ++ b :: m.drop (plc (fun x => cB (ckB x) (ckB b)) m) := by unfold putB; rw [if_neg (by rw [hf]; decide)]
  have el : (putB m b).length = m.length + 1 := by rw [ep]; simp; omega
  rw [hf] at f2
  refine ⟨fun q => ?_, fun q => ?_⟩
  ·simp only [aN_.f]
   refine Ev_b e2 (Ev_t rfl (Ev_b g2 (aV_ ?_)))
   simp only [aN_.j0]
   refine Ev_f (by decide) (Ev_b (Ev_c cl) (Ev_b f2 (Ev_f (by simp) (Ev_f (by omega) ?_))))
   refine Ev_b (a := putB m b) (Ev_c ?_) (Ev_n rfl)
   unfold bs_.f
   simp only
   rw [if_pos ⟨by omega, by omega, by omega⟩, Int.toNat_natCast, ep, List.append_assoc]
   rfl
  ·simp only [aN_.f]
   refine Ev_b e2 (Ev_t rfl (Ev_b g2 (aV_ ?_)))
   simp only [aN_.j0]
   exact Ev_f (by decide) (Ev_b (Ev_c cl) (Ev_b f2 (Ev_f (by simp) (Ev_t (by omega) (Ev_n rfl)))))
theorem salvage_ev (s : ByteArray) (hs : (s.size : Int) ≤ 1048576) : ∃ r : List Blk, (r.length : Int) ≤ 1048576 ∧ Ev (fun k => av_.f k s) r ∧ Ev (fun k => am_.f k s) r := by
 have hl := lns_len s
 obtain ⟨n, hn⟩ : ∃ n, n + 1 = (lns s).length := ⟨(lns s).length - 1, by omega⟩
 have hlin := lines_ev s hs n hn
 have hsz := lns_size s
 have hsp := split_i s hs
 generalize hP : lns s = P at hn hlin hsz hsp hl
 have htl : (P.take n).length = n := by rw [List.length_take]; omega
 have e : wrap64 ((P.length : Int) - 1) = (n : Int) := by rw [wr64 (by omega) (by omega)]; omega
 have go : ∀ (d i : Nat) (out : List Blk), (i : Int) + d = max (n : Int) 1 → VB out → ∃ r : List Blk, r.length ≤ 32 ∧ Ev (fun k => av_.l0 k (P.take n) out i) r ∧ Ev (fun k => am_.l0 k P out i) r := by
  intro d
  induction d with
  | zero =>
   intro i out h1 h2
   refine ⟨out, h2.1, aV_ ?_, aV_ ?_⟩
   ·simp only [av_.l0]; rw [htl]; exact Ev_f (by omega) (Ev_n rfl)
   ·simp only [am_.l0]; rw [e]; exact Ev_f (by omega) (Ev_n rfl)
  | succ d ih =>
   intro i out h1 h2
   by_cases hin : i < n
   case neg =>
    refine ⟨out, h2.1, aV_ ?_, aV_ ?_⟩
    ·simp only [av_.l0]; rw [htl]; exact Ev_f (by omega) (Ev_n rfl)
    ·simp only [am_.l0]; rw [e]; exact Ev_f (by omega) (Ev_n rfl)
   have hi : i < P.length := by omega
   have r1 := rdO_in P i hi
   have r2 : rdOf ByteArray.empty (P.take n) (i : Int) = P[i] := by
    rw [rdO_in (P.take n) i (by omega), List.getElem_take]
   have hx := hsz P[i] (List.getElem_mem _)
   obtain ⟨q, p1, p2, q1, q2, _⟩ := parse_ev P[i] (by omega)
   have sp : ∀ r, Ev (fun n_ => if q.2.2.2 = 0 then ((ap_.f n_ out q.1 q.2.1 q.2.2.1).bind fun t114 => (if (t114.length : Int) ≤ 32 then (av_.l0 n_ (P.take n) t114 ((i + 1 : Nat) : Int)) else (av_.l0 n_ (P.take n) out ((i + 1 : Nat) : Int)))) else (av_.l0 n_ (P.take n) out ((i + 1 : Nat) : Int))) r → Ev (fun k => av_.l0 k (P.take n) out i) r := fun r h => by
    refine aV_ ?_
    simp only [av_.l0]; rw [htl, r2, wr64s i (by omega)]; exact Ev_t (by omega) (Ev_t (by omega) (Ev_b p1 h))
   have ip : ∀ r, Ev (fun n_ => if q.2.2.2 = 0 then ((aN_.f n_ out q.1 q.2.1 q.2.2.1).bind fun bt113 => (if bt113.2 = 0 then (am_.l0 n_ P bt113.1 ((i + 1 : Nat) : Int)) else (am_.l0 n_ P out ((i + 1 : Nat) : Int)))) else (am_.l0 n_ P out ((i + 1 : Nat) : Int))) r → Ev (fun k => am_.l0 k P out i) r := fun r h => by
    refine aV_ ?_
    simp only [am_.l0]; rw [e, r1, wr64s i (by omega)]; exact Ev_t (by omega) (Ev_t (by omega) (Ev_t (by omega) (Ev_b p2 h)))
   by_cases c : q.2.2.2 = 0
   case neg =>
    obtain ⟨r, r0, g1, g2⟩ := ih (i + 1) out (by omega) h2
    exact ⟨r, r0, sp r (Ev_f c g1), ip r (Ev_f c g2)⟩
   have hb : Vb (⟨q.1, q.2.1, q.2.2.1⟩ : Blk) := ⟨q1, q2 c⟩
   obtain ⟨u1, u2, u3⟩ := putV_ev out (⟨q.1, q.2.1, q.2.2.1⟩ : Blk) h2 hb
   by_cases hle : (putB out (⟨q.1, q.2.1, q.2.2.1⟩ : Blk)).length ≤ 32
   rotate_left
   ·obtain ⟨r, r0, g1, g2⟩ := ih (i + 1) out (by omega) h2
    exact ⟨r, r0, sp r (Ev_t c (Ev_b u1 (Ev_f (by omega) g1))), ip r (Ev_t c (Ev_b (u3 hle) (Ev_f (by decide) g2)))⟩
   obtain ⟨r, r0, g1, g2⟩ := ih (i + 1) _ (by omega) (putB_VB out _ h2 hb hle)
   exact ⟨r, r0, sp r (Ev_t c (Ev_b u1 (Ev_t (by omega) g1))), ip r (Ev_t c (Ev_b (u2 hle) (Ev_t rfl g2)))⟩
 obtain ⟨r, r0, g1, g2⟩ := go ((max (n : Int) 1).toNat - 1) 1 [] (by omega) ⟨by simp, List.Pairwise.nil, fun y hy => by cases hy⟩
 refine ⟨r, by omega, ?_, ?_⟩
 ·simp only [av_.f]
  exact Ev_b hlin g1
 ·simp only [am_.f]
  exact Ev_b (Ev_c hsp) g2
theorem law_SalvageBlocks : aG_.Pure := by
 intro u hu
 have hM : maxLen = 9223372036854775807 := by decide
 refine Ev.rounds (r := true) ?_
 simp only [aG_.f]
 by_cases lu : (u.size : Int) > 1048576
 ·exact Ev_t lu (Ev_n rfl)
 refine Ev_f lu ?_
 obtain ⟨r0, E0, e1, e2⟩ := salvage_ev u (by omega)
 have qr0 := eqS_Block r0 (by omega) (by first | exact E_r0 | (intro y _; trivial))
 obtain ⟨pr0, _, mr0, hr0⟩ := mk_Block r0 1 (by omega) (by omega) (by omega)
 repeat' (first | ((first | (with_reducible refine Ev_b e1 ?_) | (with_reducible refine Ev_b e2 ?_) | (with_reducible refine Ev_b qr0 ?_) | (with_reducible refine Ev_b mr0 ?_) | (with_reducible refine Ev_b hr0 ?_)); try dsimp only) | (with_reducible refine Ev_t rfl ?_) | (with_reducible refine Ev_t True.intro ?_) | (refine Ev_f (by omega) ?_) | (refine Ev_t (by omega) ?_) | (refine Ev_f (by simp) ?_) | exact Ev_n rfl | (refine aV_ ?_; first | simp only [aG_.j0] | simp only [aG_.j1] | simp only [aG_.j2]))
end Go.Proofs.YtjebkmfljcanlaaDoor.Q
namespace Go.Proofs.YtjebkmfljcanlaaDoor.Pure
open Go.Proofs.YtjebkmfljcanlaaDoor.Q
theorem FnExactSalvageBlocks : aG_.Pure := law_SalvageBlocks
end Go.Proofs.YtjebkmfljcanlaaDoor.Pure
namespace Go.Proofs.YtjebkmfljcanlaaDoor.OPN
open Go
theorem wrap_and_shaped {H : Type} {enc : TypeId × Value → H} {a : Assume} {C : Checked} {os : Os} {f : FuncId} {fn : Func} {s : ChangeSpec} {conds : List PathCond} {apart fresh handsOn again : Bool} {X : World → Array Value → Prop}
  (hX : ∀ (w w' : World) (args : Array Value), w.heap = w'.heap → X w args → X w' args)
  (own : ownKnob C.prog.godebug = none) (started : os.Started) (noInit : C.prog.inits.idxOf? f = none) (hfn : C.prog.funcs[f]? = some fn)
  (witness : ∃ (w : World) (tape : Tape) (i : Input), w.os = os ∧ (w.forCall tape i).Shaped C.prog ∧ i.vars = [] ∧ Input.okWide C.prog (w.forCall tape i) .any w.heap.size f i ∧
   ((s.pre enc C.prog fn conds apart (w.forCall tape i).memory i.args ∧ X (w.forCall tape i).memory i.args) ∧ sizedMet enc C.prog fn (OpenSpec.ofChange s) apart (w.forCall tape i).memory i.args) ∧ a.holds C.prog (lone (Frame.enter C.prog f i.args .normal) [] (w.forCall tape i)))
  (contract : ∀ (W : World) (base : Nat) (args : Array Value) (ds gs : List (DataW H)) (before : List MemPlace),
   (∀ (j : Nat) t v, fn.params[j]? = some t → args[j]? = some v → Value.okWide C.prog W .any base t v) →
   DataW.Whole enc C.prog fn.params.toList s.vars apart W args.toList ds gs before →
   conds.all (PathCond.test C.prog ⟨fn.params.toList, ds, s.plain.varTypes C.prog, gs⟩) = true →
   (DataW.weightsEach C.prog (fn.params.toList ++ s.plain.varTypes C.prog) (ds ++ gs)).all (· ≤ reachBytes) = true → X W args → W.ShapedOpen C.prog →
   a.holds C.prog (lone (Frame.enter C.prog f args .normal) [] W) →
   Calls C.prog f args W fun e W' => ∃ v, e = .returned v ∧ s.post enc C.prog fn apart fresh handsOn again W args v W') :
  ReturnsInHanded a C os f .any (fun w args => (s.pre enc C.prog fn conds apart w args ∧ X w args) ∧ sizedMet enc C.prog fn (OpenSpec.ofChange s) apart w args) (s.post enc C.prog fn apart fresh handsOn again) := by
 refine returnsInHanded_of_calls own started noInit witness ?_
 intro w tape i _ hsh _ hok hpre hholds
 obtain ⟨_, _, _, fn', hfn', _, _, _, _, hval⟩ := hok
 have e : fn' = fn := Option.some.inj (hfn'.symm.trans hfn)
 subst e
 obtain ⟨⟨⟨ds, gs, before, hw, hc⟩, hx⟩, hz⟩ := hpre
 have hw' := DataW.Whole.of_heap (w' := w.forCall tape i) (by rfl) hw
 refine (contract (w.forCall tape i) w.heap.size i.args ds gs before hval hw' hc (hz.weights hw) (hX _ _ _ (by rfl) hx) hsh hholds).mono fun e W' ⟨v, he, hp⟩ => ?_
 subst he
 exact ChangeSpec.post_blind hp
end Go.Proofs.YtjebkmfljcanlaaDoor.OPN
namespace Go.Proofs.YtjebkmfljcanlaaDoor.fnExactSalvageBlocks
open Go.ChangeShapes Go.WideShapes Go.ChangeAt Go.RowKit Go.Proofs.YtjebkmfljcanlaaDoor.OPN Go.Proofs.YtjebkmfljcanlaaDoor.Q Go.Proofs.YtjebkmfljcanlaaDoorW.PrintWords
open Go.ChangeMaps (open_string shut_string)
theorem own : ownKnob Tryd.prog.godebug = none := by kernel_rfl
theorem laidOut : laidOutB Tryd.prog = true := by kernel_rfl
theorem tab_of {W : World} (hL : laidMetH Tryd.prog Rows.fnExactSalvageBlocksRow.laid W) (hsh : W.ShapedOpen Tryd.prog) : Tab_ W := by
 refine ⟨?_, ?_⟩
 ·have hl := hL
  rw [MakeChecks.laidMetH_plain _ _ _ (by kernel_rfl)] at hl
  have h1 := (laidMet.tail (laidMet.tail hl))
  have e_ : (Rows.laid_internal_strconv_uint64pow10 : DataW Unit) = Lib.tabData .u64 Lib.pow10Tab := by rfl
  refine Lib.tabIs_of_head (g := 3) (t := 132) (e := 79) (n := 20) (rest := [("unicode/utf8.acceptRanges", Rows.laid_unicode_utf8_acceptRanges), ("unicode/utf8.first", Rows.laid_unicode_utf8_first)]) (by kernel_rfl) (by kernel_rfl) Tryd.underlying132 Tryd.underlying79 (by kernel_rfl) (by kernel_rfl) ?_
  rw [← e_]
  exact h1
 ·exact Tryd.laysM219.s1_3 W hsh
set_option maxRecDepth 100000 in
theorem lifted (os : Os) (started : os.Started) (H : Type) (enc : TypeId × Value → H) :
  ReturnsInHanded {} Tryd.checked os 5 .any (fun w args => (Rows.fnExactSalvageBlocksSpec.pre enc Tryd.prog Tryd.f5 Rows.fnExactSalvageBlocksRow.domain false w args ∧ laidMetH Tryd.prog Rows.fnExactSalvageBlocksRow.laid w) ∧ sizedMet enc Tryd.prog Tryd.f5 (OpenSpec.ofChange Rows.fnExactSalvageBlocksSpec) false w args) (Rows.fnExactSalvageBlocksSpec.post enc Tryd.prog Tryd.f5 false true false false) := by
 refine wrap_and_shaped (C := Tryd.checked) (X := fun w _ => laidMetH Tryd.prog Rows.fnExactSalvageBlocksRow.laid w) (fun _ _ _ hh h => h.of_heap hh) own started (by kernel_rfl) Tryd.func5
  (ChangeSpec.witness_shaped (enc := enc) (C := Tryd.checked) (os := os) (X := fun w _ => laidMetH Tryd.prog Rows.fnExactSalvageBlocksRow.laid w) false (World.laidAll Tryd.prog os Rows.fnExactSalvageBlocksRow.laid) #[.string ByteArray.empty] 8 (World.laidAll_os _ _ _) (World.shaped_of_ZipB (by kernel_rfl) (by kernel_rfl)) (by kernel_rfl) (by kernel_rfl) (by kernel_rfl) (by rw [MakeChecks.laidMetH_plain _ _ _ (by kernel_rfl)]; exact laidMet_laidAll _ (by kernel_rfl) (by kernel_rfl))) ?_
 intro W base args ds gs before hval0 hW hcnd hsz0 hL hsh _
 have hTab := tab_of hL hsh
 clear hL hsh
 have hval : ∀ (j : Nat) t v, Tryd.f5.params[j]? = some t → args[j]? = some v → Value.okWide Tryd.prog W .any base t v := hval0
 have hW' := hW
 obtain ⟨p, q, hA0, hV, rfl, hfz, hnd⟩ := hW
 have hA : DataW.TrodAll enc Tryd.prog W 0 (fun _ => true) true Tryd.f5.params.toList args.toList ds p := hA0
 rw [Tryd.params5] at hA hval
 obtain ⟨v0, vs0, d0, ds0, p0, q0, hargs, rfl, rfl, h0, r0⟩ := trodAll_cons hA
 obtain ⟨rfl, rfl, rfl⟩ := trodAll_nil r0
 obtain rfl : args = #[v0] := by cases args; simp_all
 obtain ⟨rfl, rfl⟩ := trodVars_none hV
 obtain ⟨x0, rfl, rfl, rfl, w0⟩ := open_string Tryd.underlying9 (hval 0 9 v0 rfl rfl) h0
 clear hA0 hval0 hsz0
 obtain ⟨k, hP⟩ := Pure.FnExactSalvageBlocks x0 w0
 refine (aG_.calls k x0 true W hTab hP).mono fun e W' hh => ?_
 obtain ⟨rfl, bel0⟩ := hh
 have bel : Below W.heap.size W W' := bel0
 exact ⟨_, rfl, _, _, _, [], _, [], hW', trodAll_mk1 (shut_bool Tryd.underlying4 _), (trodAll_cons_mk (shut_string Tryd.underlying9 w0) trodAll_mk0), rfl, bel.frame _, fun h => by cases h⟩
theorem over : Rows.fnExactSalvageBlocksRow.holds Tryd.pinned (OpenSpec.ofChange Rows.fnExactSalvageBlocksSpec) :=
 OpenClaim.holds_of_wide 5 Tryd.f5 rfl rfl rfl rfl rfl rfl rfl ⟨rfl, rfl, rfl, rfl, rfl⟩ rfl rfl rfl rfl rfl (by kernel_rfl) Tryd.func5 (by kernel_rfl)
  (of_decide_eq_true (by kernel_rfl)) (by unfold Func.isWrapper; first | (rw [if_pos (by decide +kernel)]; kernel_rfl) | (rw [if_neg (by decide +kernel)]; exact ⟨rfl, rfl⟩))
  (fun os started H enc _ => lifted os started H enc)
theorem proved : Rows.FnExactSalvageBlocksSaid := over
#print axioms proved
end Go.Proofs.YtjebkmfljcanlaaDoor.fnExactSalvageBlocks
namespace Go.Proofs.YtjebkmfljcanlaaDoor
open Go
theorem fnExactSalvageBlocks_holds : Rows.FnExactSalvageBlocksCardSaid :=
 Claim7.holds_tied_plain_at .later [] [.data, .data, .data, .data, .pinned] true (true, "86b63af80d4f52972ed28c49f965f15c9686d21a29e66773e83e1a2c4e98e785") false fnExactSalvageBlocks.proved (fun _ h => by cases h) (by kernel_rfl) (fun _ h => by cases h) fnExactSalvageBlocks_row_tie rfl ⟨rfl, rfl⟩ (by kernel_rfl) rfl
  (fun f fn hf hfn => by
   obtain rfl : f = 5 := Option.some.inj ((show Tryd.prog.funcNamed "loop.example/g00956/laws.FnExactSalvageBlocks" = some 5 by kernel_rfl).symm.trans hf) |>.symm
   obtain rfl : fn = Tryd.f5 := (Option.some.inj (Tryd.func5.symm.trans hfn)).symm
   exact ⟨by kernel_rfl, fun j t ht => by
    rw [Tryd.params5] at ht
    have hm : t ∈ [9] := by simpa using Array.mem_of_getElem? ht
    have hall : ([9].all fun u => !Tryd.prog.wantsStandIn u) = true := by kernel_rfl
    exact (show Tryd.prog.wantsStandIn t = false by simpa using List.all_eq_true.1 hall t hm)⟩)
  (by kernel_rfl)
end Go.Proofs.YtjebkmfljcanlaaDoor
