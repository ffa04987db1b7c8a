/- The statement FnExactLeavesOfBlocks: for all lists of blocks the program and the reference give the same leaves and the same code; the lists handed over stay as they are, and the leaves are new. This text holds the functions' walks and the words for them. -/
import Derived.Test.YtckboiphlhhckaaGreatDoorKFnExactLeavesOfBlocksa
set_option linter.unusedVariables false
set_option linter.unusedSimpArgs false
namespace Go.Proofs.YtckboiphlhhckaaGreatDoor.Q
open Go.RowKit Go.Proofs.YtckboiphlhhckaaGreatDoorW.PrintWords Go.Proofs.YtckboiphlhhckaaGreatDoorW.PrintLast Go.Proofs.YtckboiphlhhckaaGreatDoorW.PrintMore
attribute [local go_sem] aN_ aM_ aW_ aU_ aC_ aD_ aL_ aO_
def bs_.l0 : Nat → List (S38) → Int → Option (Bool)
 | 0, _, _ => none
 | k + 1, x0, x3 => if x3 < (x0.length : Int) then (if 0 ≤ x3 then ((br_.f k [ag_ x0 x3]).bind fun t102 => (if t102 = true then (if x3 > 0 then (if 0 ≤ (wrap64 (x3 - 1)) then (if (wrap64 (x3 - 1)) < (x0.length : Int) then ((bZ_.f [ag_ x0 (wrap64 (x3 - 1))] [ag_ x0 x3]).bind fun t105 => (if t105 = true then (bs_.l0 k x0 (wrap64 (x3 + 1))) else (some false))) else (none)) else (none)) else (bs_.l0 k x0 (wrap64 (x3 + 1)))) else (some false))) else (none)) else (some (decide ((x0.length : Int) ≤ 32)))
def bs_.f (k : Nat) (l0 : List (S38)) : Option (Bool) := bs_.l0 k l0 0
set_option maxHeartbeats 8000000 in
set_option maxRecDepth 100000 in
theorem bs_.calls (k : Nat) (A0 : Option Addr) (c0 : Nat) (l0 : List (S38)) (r : Bool) (w : World) (hr0 : Kd.C k38 w A0 l0.length l0) (hc0 : l0.length ≤ c0) (h : bs_.f k l0 = some r) :
  Calls Tryz.prog 14 #[.slice A0 l0.length c0] w fun e w' => e = .returned (.bool r) ∧ ap_ w w' := by
 have HR0 := Aside0.mk hr0
 have HC0 := Aside0.mk hc0
 clear hr0 hc0
 have H : (bs_.l0 k l0 0) = some r := h
 clear h
 have H' := Aside0.mk H
 clear H
 go_enter Tryz.func14, Tryz.ntmps14
 go_wp2
 repeat (go_quiet (fail); try go_wp2)
 (try simp only [Act.put, lsa_, ls0_, ls1_])
 go_loopg [3] k (fun kq v3 w' => ∃ (x3_1 : Int), v3 = .int .i64 x3_1 ∧ Aside0 (bs_.l0 kq l0 x3_1 = some r) ∧ Aside0 (kq ≤ k) ∧ ap_ w w')
 case atStart => exact ⟨(0), (by first | rfl | (simp; done) | (simp [*]; done)), H', ⟨Nat.le_refl _⟩, by repeat (first | exact ap_.refl _ | apply ap_.step)⟩
 case round =>
  clear H'
  obtain ⟨x3_1, rfl, HA, HK1, ⟨m1, rfl⟩⟩ := hrel
  cases gk with
  | zero => exact absurd HA.out (by simp [bs_.l0])
  | succ k1 =>
   have H := HA.out
   clear HA
   simp only [bs_.l0] at H
   by_cases c2 : x3_1 < (l0.length : Int)
   rotate_left
   ·rw [if_neg c2] at H
    have c2b0 : decide (x3_1 < (l0.length : Int)) = false := decide_eq_false c2
    clear c2
    obtain rfl := Option.some.inj H
    go_wp2
    repeat (go_quiet (fail); try go_wp2)
    go_ret
    exact ⟨by first | rfl | (simp; done) | (simp [*]; done), by repeat (first | exact ap_.refl _ | apply ap_.step)⟩
   rw [if_pos c2] at H
   have c2b0 : decide (x3_1 < (l0.length : Int)) = true := decide_eq_true c2
   clear c2
   by_cases c3 : 0 ≤ x3_1
   rotate_left
   ·rw [if_neg c3] at H
    exact absurd H (by simp)
   rw [if_pos c3] at H
   have c3b0 : decide (0 ≤ x3_1) = true := decide_eq_true c3
   clear c3
   replace H := Option.bind_eq_some_iff.mp H
   obtain ⟨t102, A40, H⟩ := H
   (try dsimp only at H)
   have A4 := Aside0.mk A40
   clear A40
   by_cases c5 : t102 = true
   rotate_left
   ·replace c5 := Bool.eq_false_iff.mpr c5
    subst c5
    have H1 : (some false) = some r := by rw [if_neg (show ¬ (false = true) by decide)] at H; exact H
    clear H
    have H := H1
    clear H1
    obtain rfl := Option.some.inj H
    have p101 : 0 ≤ (x3_1 : Int) := of_decide_eq_true (by assumption)
    have q101 : x3_1 < (l0.length : Int) := of_decide_eq_true (by assumption)
    obtain ⟨ad101, e101, hx101_0, hx101_1, hx101_2⟩ := bX_ HR0.out x3_1 p101 q101
    cases e101
    replace p101 := eq_true p101
    replace q101 := eq_true q101
    go_wp2_with (first | (go_at_call 24; (with_reducible refine (br_.calls k1 _ [ag_ l0 x3_1] false _ ?side1 A4.out).mono ?_); (case side1 => exact (RPW.cK_ (ad := ad101) (n := l0.length) (xs := l0) z38 (i := x3_1) (by first | exact of_eq_true p101 | exact p101 | omega) (by first | exact of_eq_true q101 | exact q101 | omega) (by first | exact HR0.out | exact cz HR0.out))); rintro e w' ⟨rfl, ⟨nd, rfl⟩⟩; (try first | exact ⟨rfl, _, World.drewN_drewN _ _ _⟩ | exact ⟨rfl, _, Eq.trans (World.drewN_drewN _ _ _) (congrArg (World.drewN _) (Nat.add_assoc _ _ _))⟩)))
    repeat (go_quiet (first | (go_at_call 24; (with_reducible refine (br_.calls k1 _ [ag_ l0 x3_1] false _ ?side1 A4.out).mono ?_); (case side1 => exact (RPW.cK_ (ad := ad101) (n := l0.length) (xs := l0) z38 (i := x3_1) (by first | exact of_eq_true p101 | exact p101 | omega) (by first | exact of_eq_true q101 | exact q101 | omega) (by first | exact HR0.out | exact cz HR0.out))); rintro e w' ⟨rfl, ⟨nd, rfl⟩⟩; (try first | exact ⟨rfl, _, World.drewN_drewN _ _ _⟩ | exact ⟨rfl, _, Eq.trans (World.drewN_drewN _ _ _) (congrArg (World.drewN _) (Nat.add_assoc _ _ _))⟩))); try go_wp2_with (first | (go_at_call 24; (with_reducible refine (br_.calls k1 _ [ag_ l0 x3_1] false _ ?side1 A4.out).mono ?_); (case side1 => exact (RPW.cK_ (ad := ad101) (n := l0.length) (xs := l0) z38 (i := x3_1) (by first | exact of_eq_true p101 | exact p101 | omega) (by first | exact of_eq_true q101 | exact q101 | omega) (by first | exact HR0.out | exact cz HR0.out))); rintro e w' ⟨rfl, ⟨nd, rfl⟩⟩; (try first | exact ⟨rfl, _, World.drewN_drewN _ _ _⟩ | exact ⟨rfl, _, Eq.trans (World.drewN_drewN _ _ _) (congrArg (World.drewN _) (Nat.add_assoc _ _ _))⟩))))
    go_ret
    exact ⟨by first | rfl | (simp; done) | (simp [*]; done), by repeat (first | exact ap_.refl _ | apply ap_.step)⟩
   subst c5
   have H1 : (if x3_1 > 0 then (if 0 ≤ (wrap64 (x3_1 - 1)) then (if (wrap64 (x3_1 - 1)) < (l0.length : Int) then ((bZ_.f [ag_ l0 (wrap64 (x3_1 - 1))] [ag_ l0 x3_1]).bind fun t105 => (if t105 = true then (bs_.l0 k1 l0 (wrap64 (x3_1 + 1))) else (some false))) else (none)) else (none)) else (bs_.l0 k1 l0 (wrap64 (x3_1 + 1)))) = some r := by rw [if_pos rfl] at H; exact H
   clear H
   have H := H1
   clear H1
   by_cases c6 : x3_1 > 0
   rotate_left
   ·rw [if_neg c6] at H
    have c6b0 : decide (0 < x3_1) = false := decide_eq_false c6
    clear c6
    have H' := Aside0.mk H
    clear H
    have p101 : 0 ≤ (x3_1 : Int) := of_decide_eq_true (by assumption)
    have q101 : x3_1 < (l0.length : Int) := of_decide_eq_true (by assumption)
    obtain ⟨ad101, e101, hx101_0, hx101_1, hx101_2⟩ := bX_ HR0.out x3_1 p101 q101
    cases e101
    replace p101 := eq_true p101
    replace q101 := eq_true q101
    go_wp2_with (first | (go_at_call 24; (with_reducible refine (br_.calls k1 _ [ag_ l0 x3_1] true _ ?side1 A4.out).mono ?_); (case side1 => exact (RPW.cK_ (ad := ad101) (n := l0.length) (xs := l0) z38 (i := x3_1) (by first | exact of_eq_true p101 | exact p101 | omega) (by first | exact of_eq_true q101 | exact q101 | omega) (by first | exact HR0.out | exact cz HR0.out))); rintro e w' ⟨rfl, ⟨nd, rfl⟩⟩; (try first | exact ⟨rfl, _, World.drewN_drewN _ _ _⟩ | exact ⟨rfl, _, Eq.trans (World.drewN_drewN _ _ _) (congrArg (World.drewN _) (Nat.add_assoc _ _ _))⟩)))
    repeat (go_quiet (first | (go_at_call 24; (with_reducible refine (br_.calls k1 _ [ag_ l0 x3_1] true _ ?side1 A4.out).mono ?_); (case side1 => exact (RPW.cK_ (ad := ad101) (n := l0.length) (xs := l0) z38 (i := x3_1) (by first | exact of_eq_true p101 | exact p101 | omega) (by first | exact of_eq_true q101 | exact q101 | omega) (by first | exact HR0.out | exact cz HR0.out))); rintro e w' ⟨rfl, ⟨nd, rfl⟩⟩; (try first | exact ⟨rfl, _, World.drewN_drewN _ _ _⟩ | exact ⟨rfl, _, Eq.trans (World.drewN_drewN _ _ _) (congrArg (World.drewN _) (Nat.add_assoc _ _ _))⟩))); try go_wp2_with (first | (go_at_call 24; (with_reducible refine (br_.calls k1 _ [ag_ l0 x3_1] true _ ?side1 A4.out).mono ?_); (case side1 => exact (RPW.cK_ (ad := ad101) (n := l0.length) (xs := l0) z38 (i := x3_1) (by first | exact of_eq_true p101 | exact p101 | omega) (by first | exact of_eq_true q101 | exact q101 | omega) (by first | exact HR0.out | exact cz HR0.out))); rintro e w' ⟨rfl, ⟨nd, rfl⟩⟩; (try first | exact ⟨rfl, _, World.drewN_drewN _ _ _⟩ | exact ⟨rfl, _, Eq.trans (World.drewN_drewN _ _ _) (congrArg (World.drewN _) (Nat.add_assoc _ _ _))⟩))))
    go_roundg k1
    case measure => have := HK1.out; omega
    case rel => exact ⟨(wrap64 (x3_1 + 1)), (by first | rfl | (simp; done) | (simp [*]; done)), H', ⟨by have := HK1.out; omega⟩, by repeat (first | exact ap_.refl _ | apply ap_.step)⟩
   rw [if_pos c6] at H
   have c6b0 : decide (0 < x3_1) = true := decide_eq_true c6
   clear c6
   obtain ⟨ji7, hji7⟩ : ∃ j_ : Int, (wrap64 (x3_1 - 1)) = j_ := ⟨_, rfl⟩
   replace H : (if 0 ≤ (ji7) then (if (ji7) < (l0.length : Int) then ((bZ_.f [ag_ l0 (ji7)] [ag_ l0 x3_1]).bind fun t105 => (if t105 = true then (bs_.l0 k1 l0 (wrap64 (x3_1 + 1))) else (some false))) else (none)) else (none)) = some r := by first | (rw [hji7] at H; exact H) | (simp only [hji7] at H ⊢; exact H)
   (try rw [hji7] at A4)
   have hji7w : (IntKind.i64.wrap (x3_1 - 1)) = ji7 := (i64_w _).trans hji7
   by_cases c8 : 0 ≤ (ji7)
   rotate_left
   ·rw [if_neg c8] at H
    exact absurd H (by simp)
   rw [if_pos c8] at H
   have c8b0 : decide (0 ≤ (ji7)) = true := decide_eq_true c8
   clear c8
   by_cases c9 : (ji7) < (l0.length : Int)
   rotate_left
   ·rw [if_neg c9] at H
    exact absurd H (by simp)
   rw [if_pos c9] at H
   have c9b0 : decide ((ji7) < (l0.length : Int)) = true := decide_eq_true c9
   clear c9
   replace H := Option.bind_eq_some_iff.mp H
   obtain ⟨t105, A100, H⟩ := H
   (try dsimp only at H)
   have A10 := Aside0.mk A100
   clear A100
   have HC11 := Aside0.mk H
   clear H
   have p101 : 0 ≤ (x3_1 : Int) := of_decide_eq_true (by assumption)
   have q101 : x3_1 < (l0.length : Int) := of_decide_eq_true (by assumption)
   obtain ⟨ad101, e101, hx101_0, hx101_1, hx101_2⟩ := bX_ HR0.out x3_1 p101 q101
   cases e101
   replace p101 := eq_true p101
   replace q101 := eq_true q101
   have p103 : 0 ≤ ((ji7) : Int) := of_decide_eq_true (by assumption)
   have q103 : (ji7) < (l0.length : Int) := of_decide_eq_true (by assumption)
   obtain ⟨ad103, e103, hx103_0, hx103_1, hx103_2⟩ := bX_ HR0.out (ji7) p103 q103
   obtain rfl : ad101 = ad103 := (by injection e103)
   replace p103 := eq_true p103
   replace q103 := eq_true q103
   have p104 : 0 ≤ (x3_1 : Int) := of_decide_eq_true (by assumption)
   have q104 : x3_1 < (l0.length : Int) := of_decide_eq_true (by assumption)
   obtain ⟨ad104, e104, hx104_0, hx104_1, hx104_2⟩ := bX_ HR0.out x3_1 p104 q104
   obtain rfl : ad101 = ad104 := (by injection e104)
   replace p104 := eq_true p104
   replace q104 := eq_true q104
   go_upto_if 29 with (first | (go_at_call 24; (with_reducible refine (br_.calls k1 _ [ag_ l0 x3_1] true _ ?side1 A4.out).mono ?_); (case side1 => exact (RPW.cK_ (ad := ad101) (n := l0.length) (xs := l0) z38 (i := x3_1) (by first | exact of_eq_true p101 | exact p101 | omega) (by first | exact of_eq_true q101 | exact q101 | omega) (by first | exact HR0.out | exact cz HR0.out))); rintro e w' ⟨rfl, ⟨nd, rfl⟩⟩; (try first | exact ⟨rfl, _, World.drewN_drewN _ _ _⟩ | exact ⟨rfl, _, Eq.trans (World.drewN_drewN _ _ _) (congrArg (World.drewN _) (Nat.add_assoc _ _ _))⟩)) | (go_at_call 25; (with_reducible refine (bZ_.calls _ [ag_ l0 (ji7)] _ [ag_ l0 x3_1] t105 _ ?side1 ?side2 A10.out).mono ?_); (case side1 => exact (RPW.cK_ (ad := ad101) (n := l0.length) (xs := l0) z38 (i := (ji7)) (by first | exact of_eq_true p103 | exact p103 | omega) (by first | exact of_eq_true q103 | exact q103 | omega) (by first | exact HR0.out | exact cz HR0.out))); (case side2 => exact (RPW.cK_ (ad := ad101) (n := l0.length) (xs := l0) z38 (i := x3_1) (by first | exact of_eq_true p104 | exact p104 | omega) (by first | exact of_eq_true q104 | exact q104 | omega) (by first | exact HR0.out | exact cz HR0.out))); rintro e w' ⟨rfl, ⟨nd, rfl⟩⟩; (try first | exact ⟨rfl, _, World.drewN_drewN _ _ _⟩ | exact ⟨rfl, _, Eq.trans (World.drewN_drewN _ _ _) (congrArg (World.drewN _) (Nat.add_assoc _ _ _))⟩)))
   repeat (go_quiet (first | (go_at_call 24; (with_reducible refine (br_.calls k1 _ [ag_ l0 x3_1] true _ ?side1 A4.out).mono ?_); (case side1 => exact (RPW.cK_ (ad := ad101) (n := l0.length) (xs := l0) z38 (i := x3_1) (by first | exact of_eq_true p101 | exact p101 | omega) (by first | exact of_eq_true q101 | exact q101 | omega) (by first | exact HR0.out | exact cz HR0.out))); rintro e w' ⟨rfl, ⟨nd, rfl⟩⟩; (try first | exact ⟨rfl, _, World.drewN_drewN _ _ _⟩ | exact ⟨rfl, _, Eq.trans (World.drewN_drewN _ _ _) (congrArg (World.drewN _) (Nat.add_assoc _ _ _))⟩)) | (go_at_call 25; (with_reducible refine (bZ_.calls _ [ag_ l0 (ji7)] _ [ag_ l0 x3_1] t105 _ ?side1 ?side2 A10.out).mono ?_); (case side1 => exact (RPW.cK_ (ad := ad101) (n := l0.length) (xs := l0) z38 (i := (ji7)) (by first | exact of_eq_true p103 | exact p103 | omega) (by first | exact of_eq_true q103 | exact q103 | omega) (by first | exact HR0.out | exact cz HR0.out))); (case side2 => exact (RPW.cK_ (ad := ad101) (n := l0.length) (xs := l0) z38 (i := x3_1) (by first | exact of_eq_true p104 | exact p104 | omega) (by first | exact of_eq_true q104 | exact q104 | omega) (by first | exact HR0.out | exact cz HR0.out))); rintro e w' ⟨rfl, ⟨nd, rfl⟩⟩; (try first | exact ⟨rfl, _, World.drewN_drewN _ _ _⟩ | exact ⟨rfl, _, Eq.trans (World.drewN_drewN _ _ _) (congrArg (World.drewN _) (Nat.add_assoc _ _ _))⟩))); go_upto_if 29 with (first | (go_at_call 24; (with_reducible refine (br_.calls k1 _ [ag_ l0 x3_1] true _ ?side1 A4.out).mono ?_); (case side1 => exact (RPW.cK_ (ad := ad101) (n := l0.length) (xs := l0) z38 (i := x3_1) (by first | exact of_eq_true p101 | exact p101 | omega) (by first | exact of_eq_true q101 | exact q101 | omega) (by first | exact HR0.out | exact cz HR0.out))); rintro e w' ⟨rfl, ⟨nd, rfl⟩⟩; (try first | exact ⟨rfl, _, World.drewN_drewN _ _ _⟩ | exact ⟨rfl, _, Eq.trans (World.drewN_drewN _ _ _) (congrArg (World.drewN _) (Nat.add_assoc _ _ _))⟩)) | (go_at_call 25; (with_reducible refine (bZ_.calls _ [ag_ l0 (ji7)] _ [ag_ l0 x3_1] t105 _ ?side1 ?side2 A10.out).mono ?_); (case side1 => exact (RPW.cK_ (ad := ad101) (n := l0.length) (xs := l0) z38 (i := (ji7)) (by first | exact of_eq_true p103 | exact p103 | omega) (by first | exact of_eq_true q103 | exact q103 | omega) (by first | exact HR0.out | exact cz HR0.out))); (case side2 => exact (RPW.cK_ (ad := ad101) (n := l0.length) (xs := l0) z38 (i := x3_1) (by first | exact of_eq_true p104 | exact p104 | omega) (by first | exact of_eq_true q104 | exact q104 | omega) (by first | exact HR0.out | exact cz HR0.out))); rintro e w' ⟨rfl, ⟨nd, rfl⟩⟩; (try first | exact ⟨rfl, _, World.drewN_drewN _ _ _⟩ | exact ⟨rfl, _, Eq.trans (World.drewN_drewN _ _ _) (congrArg (World.drewN _) (Nat.add_assoc _ _ _))⟩))))
   (try simp only [Act.put, lsa_, ls0_, ls1_])
   have H := HC11.out
   clear HC11
   by_cases c12 : t105 = true
   rotate_left
   ·replace c12 := Bool.eq_false_iff.mpr c12
    subst c12
    have H1 : (some false) = some r := by rw [if_neg (show ¬ (false = true) by decide)] at H; exact H
    clear H
    have H := H1
    clear H1
    obtain rfl := Option.some.inj H
    go_wp2
    repeat (go_quiet (fail); try go_wp2)
    go_ret
    exact ⟨by first | rfl | (simp; done) | (simp only [← hji7] <;> (first | rfl | simp)) | (simp [*]; done), by repeat (first | exact ap_.refl _ | apply ap_.step)⟩
   subst c12
   have H1 : (bs_.l0 k1 l0 (wrap64 (x3_1 + 1))) = some r := by rw [if_pos rfl] at H; exact H
   clear H
   have H := H1
   clear H1
   have H' := Aside0.mk H
   clear H
   go_wp2
   repeat (go_quiet (fail); try go_wp2)
   go_roundg k1
   case measure => have := HK1.out; omega
   case rel => exact ⟨(wrap64 (x3_1 + 1)), (by first | rfl | (simp; done) | (simp [*]; done)), H', ⟨by have := HK1.out; omega⟩, by repeat (first | exact ap_.refl _ | apply ap_.step)⟩
def aP_.l0 : Nat → ByteArray → Int → List ByteArray → Int → Int → Option (List ByteArray)
 | 0, _, _, _, _, _ => none
 | k + 1, x0, x1, x5, x6, x7 => if x7 < (x0.size : Int) then (if 0 ≤ x7 then (if (bt x0 x7) = x1 then (if 0 ≤ x6 then (if x6 ≤ x7 then (if x7 ≤ (x0.size : Int) then (if x5.length < 8796093022208 then (aP_.l0 k x0 x1 (x5 ++ [x0.extract (x6 : Int).toNat (x7 : Int).toNat]) (wrap64 (x7 + 1)) (wrap64 (x7 + 1))) else (none)) else (none)) else (none)) else (none)) else (aP_.l0 k x0 x1 x5 x6 (wrap64 (x7 + 1)))) else (none)) else (if 0 ≤ x6 then (if x6 ≤ (x0.size : Int) then (if x5.length < 8796093022208 then (some (x5 ++ [x0.extract (x6 : Int).toNat x0.size])) else (none)) else (none)) else (none))
def aP_.f (k : Nat) (a0 : ByteArray) (a1 : Int) : Option (List ByteArray) := aP_.l0 k a0 a1 (([] : List ByteArray)) 0 0
set_option maxHeartbeats 8000000 in
set_option maxRecDepth 100000 in
theorem aP_.calls (k : Nat) (a0 : ByteArray) (a1 : Int) (r : List ByteArray) (w : World) (h : aP_.f k a0 a1 = some r) :
  Calls Tryz.prog 26 #[.string a0, .int .u8 a1] w fun e w' => ∃ v0_ : Value, e = .returned (v0_) ∧ Kd.R Kd.string 9 w' w.heap.size (fun _ => True) v0_ r ∧ Below w.heap.size w w' := by
 have HB := Aside0.mk (Below.refl w.heap.size w)
 have H : (aP_.l0 k a0 a1 (([] : List ByteArray)) 0 0) = some r := h
 clear h
 obtain ⟨y101, hy101⟩ : ∃ y_ : List ByteArray, y_ = (([] : List ByteArray)) := ⟨_, rfl⟩
 replace H : (aP_.l0 k a0 a1 y101 0 0) = some r := by first | (rw [hy101]; with_reducible exact H) | (have H2_ := (Option.bind_some _ _).symm.trans H; rw [hy101]; with_reducible exact H2_) | (have H2_ := (Option.bind_some _ _).symm.trans H; with_reducible exact H2_) | with_reducible exact H | (rw [hy101]; exact H) | exact H
 have Ny101 := Aside0.mk hy101
 clear hy101
 have H' := Aside0.mk H
 clear H
 go_enter Tryz.func26, Tryz.ntmps26
 go_wp2_with (first | ((with_reducible refine aI_ (N := 8) rfl ?_); refine Kd.R_lit Kd.string _ 9 ?hg (N := 8) ?hd (xs := ([] : List ByteArray)) (inner := []) (ok := fun _ => True) (okp := fun _ => True) ?hr ?hp (fun _ hk => hk) trivial (Below.refl _ _) (Nat.le_refl _) (by simp) ?_; (case hd => rfl); (case hg => rfl); (case hr => (go_simp; try rfl)); (case hp => exact (Reps.none _ _)); intro v102 w3 ho4 hb hg_ hnew_; clear hg_ hnew_; (first | rw [← Ny101.out] at ho4 | (simp only [Int.reduceToNat] at ho4; rw [← Ny101.out] at ho4)); have HO103 := Aside0.mk (Kd.bz_ ho4 (ad_ (bz HB.out))); replace HB := Aside0.mk (ac_ (bz HB.out) hb); clear hb ho4))
 (try simp only [Act.put, lsa_, ls0_, ls1_])
 go_loopg [5, 6, 7] k (fun kq v5 v6 v7 w' => ∃ (x5_1 : List ByteArray) (x6_1 : Int) (x7_1 : Int), v6 = .int .i64 x6_1 ∧ v7 = .int .i64 x7_1 ∧ Aside0 (aP_.l0 kq a0 a1 x5_1 x6_1 x7_1 = some r) ∧ Aside0 (kq ≤ k) ∧ Aside0 (Kd.R Kd.string 9 w' w.heap.size (fun _ => True) v5 x5_1) ∧ Aside0 (Below w.heap.size w w'))
 case atStart => exact ⟨(y101), (0), (0), (by first | rfl | (simp; done) | (simp [*]; done)), (by first | rfl | (simp; done) | (simp [*]; done)), H', ⟨Nat.le_refl _⟩, ⟨rz HO103.out⟩, ⟨bz HB.out⟩⟩
 case round =>
  clear H'
  obtain ⟨x5_1, x6_1, x7_1, rfl, rfl, HA, HK1, HO_5, HB⟩ := hrel
  cases gk with
  | zero => exact absurd HA.out (by simp [aP_.l0])
  | succ k1 =>
   have H := HA.out
   clear HA
   simp only [aP_.l0] at H
   by_cases c5 : x7_1 < (a0.size : Int)
   rotate_left
   ·rw [if_neg c5] at H
    have c5b0 : decide (x7_1 < (a0.size : Int)) = false := decide_eq_false c5
    clear c5
    by_cases c14 : 0 ≤ x6_1
    rotate_left
    ·rw [if_neg c14] at H
     exact absurd H (by simp)
    rw [if_pos c14] at H
    have c14b0 := eq_true c14
    have c14b1 : decide (0 ≤ x6_1) = true := decide_eq_true c14
    clear c14
    by_cases c15 : x6_1 ≤ (a0.size : Int)
    rotate_left
    ·rw [if_neg c15] at H
     exact absurd H (by simp)
    rw [if_pos c15] at H
    have c15b0 := eq_true c15
    have c15b1 : decide (x6_1 ≤ (a0.size : Int)) = true := decide_eq_true c15
    clear c15
    by_cases c16 : x5_1.length < 8796093022208
    rotate_left
    ·rw [if_neg c16] at H
     exact absurd H (by simp)
    rw [if_pos c16] at H
    have LMc16 := Aside0.mk c16
    clear c16
    obtain ⟨y107, hy107⟩ : ∃ y_ : List ByteArray, y_ = (x5_1 ++ [a0.extract (x6_1 : Int).toNat a0.size]) := ⟨_, rfl⟩
    replace H : (some y107) = some r := by first | (rw [hy107]; with_reducible exact H) | (have H2_ := (Option.bind_some _ _).symm.trans H; rw [hy107]; with_reducible exact H2_) | (have H2_ := (Option.bind_some _ _).symm.trans H; with_reducible exact H2_) | with_reducible exact H | (rw [hy107]; exact H) | exact H
    have Ny107 := Aside0.mk hy107
    clear hy107
    obtain rfl := Option.some.inj H
    go_wp2_with (first | ((with_reducible refine cg_ (b := .append) (xs := #[.tmp 29, .tmp 33]) rfl ?_); at_builtin; refine Kd.R_append Kd.string (w0 := w) w.heap.size rfl (.tmp 29) (.tmp 33) 54 9 (.string ⟨#[]⟩) 16 rfl Tryz.underlying54 info9 rfl (by decide) (by omega) u5 x5_1 (a0.extract (x6_1 : Int).toNat a0.size) [.string (a0.extract (x6_1 : Int).toNat a0.size)] (fun _ => True) (fun _ => False) rfl rfl ?aP (fun _ hk => hk.elim) ?aF ?aO ?aB ?aS ?aL ?_; (case aP => exact rfl); (case aB => exact (bz HB.out)); (case aF => exact (fun _ _ => trivial)); (case aO => exact (rz HO_5.out)); (case aS => exact (ad_ (bz HB.out))); (case aL => have := LMc16.out; omega); intro v108 w17 ho hb hg hat; rw [← Ny107.out] at ho; replace HB := Aside0.mk (hb); have HO109 := Aside0.mk (ho); clear HO_5; clear ho hb hg hat))
    go_ret
    exact ⟨_, by first | rfl | (simp [*, ai_, ah_] <;> rfl), rz HO109.out, bz HB.out⟩
   rw [if_pos c5] at H
   have c5b0 : decide (x7_1 < (a0.size : Int)) = true := decide_eq_true c5
   clear c5
   by_cases c6 : 0 ≤ x7_1
   rotate_left
   ·rw [if_neg c6] at H
    exact absurd H (by simp)
   rw [if_pos c6] at H
   have c6b0 : decide (0 ≤ x7_1) = true := decide_eq_true c6
   clear c6
   by_cases c8 : (bt a0 x7_1) = a1
   rotate_left
   ·rw [if_neg c8] at H
    have c8b0 : ((bt a0 x7_1) == a1) = false := beq_eq_false_iff_ne.mpr c8
    have c8b1 : ((bt a0 x7_1) != a1) = true := bne_iff_ne.mpr c8
    have H' := Aside0.mk H
    clear H
    have p7 : 0 ≤ (x7_1 : Int) := of_decide_eq_true (by assumption)
    have q7 : x7_1 < (a0.size : Int) := of_decide_eq_true (by assumption)
    have hx7 := bt_at a0 x7_1
    replace p7 := eq_true p7
    replace q7 := eq_true q7
    go_wp2
    go_roundg k1
    case measure => have := HK1.out; omega
    case rel => exact ⟨(x5_1), (x6_1), (wrap64 (x7_1 + 1)), (by first | rfl | (simp; done) | (simp [*]; done)), (by first | rfl | (simp; done) | (simp [*]; done)), H', ⟨by have := HK1.out; omega⟩, ⟨rz HO_5.out⟩, ⟨bz HB.out⟩⟩
   rw [if_pos c8] at H
   have c8b0 : ((bt a0 x7_1) == a1) = true := beq_iff_eq.mpr c8
   have c8b1 : ((bt a0 x7_1) != a1) = false := bne_eq_false_iff_eq.mpr c8
   clear c8
   by_cases c9 : 0 ≤ x6_1
   rotate_left
   ·rw [if_neg c9] at H
    exact absurd H (by simp)
   rw [if_pos c9] at H
   have c9b0 := eq_true c9
   have c9b1 : decide (0 ≤ x6_1) = true := decide_eq_true c9
   clear c9
   by_cases c10 : x6_1 ≤ x7_1
   rotate_left
   ·rw [if_neg c10] at H
    exact absurd H (by simp)
   rw [if_pos c10] at H
   have c10b0 := eq_true c10
   have c10b1 : decide (x6_1 ≤ x7_1) = true := decide_eq_true c10
   clear c10
   by_cases c11 : x7_1 ≤ (a0.size : Int)
   rotate_left
   ·rw [if_neg c11] at H
    exact absurd H (by simp)
   rw [if_pos c11] at H
   have c11b0 := eq_true c11
   have c11b1 : decide (x7_1 ≤ (a0.size : Int)) = true := decide_eq_true c11
   clear c11
   by_cases c12 : x5_1.length < 8796093022208
   rotate_left
   ·rw [if_neg c12] at H
    exact absurd H (by simp)
   rw [if_pos c12] at H
   have LMc12 := Aside0.mk c12
   clear c12
   obtain ⟨y104, hy104⟩ : ∃ y_ : List ByteArray, y_ = (x5_1 ++ [a0.extract (x6_1 : Int).toNat (x7_1 : Int).toNat]) := ⟨_, rfl⟩
   replace H : (aP_.l0 k1 a0 a1 y104 (wrap64 (x7_1 + 1)) (wrap64 (x7_1 + 1))) = some r := by first | (rw [hy104]; with_reducible exact H) | (have H2_ := (Option.bind_some _ _).symm.trans H; rw [hy104]; with_reducible exact H2_) | (have H2_ := (Option.bind_some _ _).symm.trans H; with_reducible exact H2_) | with_reducible exact H | (rw [hy104]; exact H) | exact H
   have Ny104 := Aside0.mk hy104
   clear hy104
   have H' := Aside0.mk H
   clear H
   have p7 : 0 ≤ (x7_1 : Int) := of_decide_eq_true (by assumption)
   have q7 : x7_1 < (a0.size : Int) := of_decide_eq_true (by assumption)
   have hx7 := bt_at a0 x7_1
   replace p7 := eq_true p7
   replace q7 := eq_true q7
   go_wp2_with (first | ((with_reducible refine cg_ (b := .append) (xs := #[.tmp 20, .tmp 25]) rfl ?_); at_builtin; refine Kd.R_append Kd.string (w0 := w) w.heap.size rfl (.tmp 20) (.tmp 25) 54 9 (.string ⟨#[]⟩) 16 rfl Tryz.underlying54 info9 rfl (by decide) (by omega) u5 x5_1 (a0.extract (x6_1 : Int).toNat (x7_1 : Int).toNat) [.string (a0.extract (x6_1 : Int).toNat (x7_1 : Int).toNat)] (fun _ => True) (fun _ => False) rfl rfl ?aP (fun _ hk => hk.elim) ?aF ?aO ?aB ?aS ?aL ?_; (case aP => exact rfl); (case aB => exact (bz HB.out)); (case aF => exact (fun _ _ => trivial)); (case aO => exact (rz HO_5.out)); (case aS => exact (ad_ (bz HB.out))); (case aL => have := LMc12.out; omega); intro v105 w13 ho hb hg hat; rw [← Ny104.out] at ho; replace HB := Aside0.mk (hb); have HO106 := Aside0.mk (ho); clear HO_5; clear ho hb hg hat))
   go_roundg k1
   case measure => have := HK1.out; omega
   case rel => exact ⟨(y104), (wrap64 (x7_1 + 1)), (wrap64 (x7_1 + 1)), (by first | rfl | (simp; done) | (simp [*]; done)), (by first | rfl | (simp; done) | (simp [*]; done)), H', ⟨by have := HK1.out; omega⟩, ⟨rz HO106.out⟩, ⟨bz HB.out⟩⟩
mutual
def aj_.j0 : Nat → ByteArray → Int → Bool → Option (Int × Bool)
 | 0, _, _, _ => none
 | k + 1, x0, x4, x14 => if x14 = true then (aj_.j1 k x0 1) else (aj_.j1 k x0 x4)
def aj_.j1 : Nat → ByteArray → Int → Option (Int × Bool)
 | 0, _, _ => none
 | k + 1, x0, x4 => if (x0.size : Int) = x4 then (aj_.j2 k x0 x4 true) else (if (wrap64 ((x0.size : Int) - x4)) > 18 then (aj_.j2 k x0 x4 true) else (if 0 ≤ x4 then (if x4 < (x0.size : Int) then (if (bt x0 x4) = 48 then (aj_.j2 k x0 x4 (decide ((x0.size : Int) > 1))) else (aj_.j2 k x0 x4 false)) else (none)) else (none)))
def aj_.j2 : Nat → ByteArray → Int → Bool → Option (Int × Bool)
 | 0, _, _, _ => none
 | k + 1, x0, x4, x36 => if x36 = true then (some (0, false)) else (aj_.l0 k x0 x4 0 x4)
def aj_.l0 : Nat → ByteArray → Int → Int → Int → Option (Int × Bool)
 | 0, _, _, _, _ => none
 | k + 1, x0, x4, x5, x6 => if x6 < (x0.size : Int) then (if 0 ≤ x6 then ((ce_.f (bt x0 x6)).bind fun t101 => (if t101 = true then (aj_.l0 k x0 x4 (wrap64 ((wrap64 (10 * x5)) + (((bt x0 x6) - 48) % 256))) (wrap64 (x6 + 1))) else (some (0, false)))) else (none)) else (if x4 = 1 then (some (wrap64 (-x5), true)) else (some (x5, true)))
end
def aj_.f (k : Nat) (a0 : ByteArray) : Option (Int × Bool) := if (a0.size : Int) > 0 then (if 0 < (a0.size : Int) then (aj_.j0 k a0 0 ((bt a0 0) == 45)) else (none)) else (aj_.j0 k a0 0 false)
set_option maxHeartbeats 8000000 in
set_option maxRecDepth 100000 in
theorem aj_.calls (k : Nat) (a0 : ByteArray) (r1 : Int) (r2 : Bool) (w : World) (h : aj_.f k a0 = some (r1, r2)) :
  Calls Tryz.prog 27 #[.string a0] w fun e w' => e = .returned (.tuple #[.int .i64 r1, .bool r2]) ∧ ap_ w w' := by
 have H : (if (a0.size : Int) > 0 then (if 0 < (a0.size : Int) then (aj_.j0 k a0 0 ((bt a0 0) == 45)) else (none)) else (aj_.j0 k a0 0 false)) = some (r1, r2) := h
 clear h
 have HC2 := Aside0.mk H
 clear H
 go_enter Tryz.func27, Tryz.ntmps27
 go_upto_region 2 with (fail)
 go_cut [14] (fun v14 wc => ∃ (kq : Nat) (x14_1 : Bool), v14 = .bool x14_1 ∧ Aside0 (aj_.j0 kq a0 0 x14_1 = some (r1, r2)) ∧ Aside0 (kq ≤ k) ∧ ap_ w wc)
 case first =>
  have H := HC2.out
  clear HC2
  by_cases c3 : (a0.size : Int) > 0
  rotate_left
  ·rw [if_neg c3] at H
   have c3b0 : decide (0 < (a0.size : Int)) = false := decide_eq_false c3
   have c3b1 : decide (0 < a0.size) = false := decide_eq_false (by omega)
   clear c3
   (first | rw [c3b0] | (simp only [i64_w, i32_w]; rw [c3b0]) | (simp only [c3b1, Bool.not_true, Bool.not_false]) | (simp only [c3b0, Bool.not_true, Bool.not_false]) | skip)
   have H' := Aside0.mk H
   clear H
   go_wp2
   go_meet
   case rel => exact ⟨_, (false), (by first | rfl | (simp; done) | (simp [*]; done)), H', ⟨by first | omega | exact Nat.le_refl _⟩, by repeat (first | exact ap_.refl _ | apply ap_.step)⟩
  rw [if_pos c3] at H
  have c3b0 : decide (0 < (a0.size : Int)) = true := decide_eq_true c3
  have c3b1 : decide (0 < a0.size) = true := decide_eq_true (by omega)
  clear c3
  (first | rw [c3b0] | (simp only [i64_w, i32_w]; rw [c3b0]) | (simp only [c3b1, Bool.not_true, Bool.not_false]) | (simp only [c3b0, Bool.not_true, Bool.not_false]) | skip)
  by_cases c4 : 0 < (a0.size : Int)
  rotate_left
  ·rw [if_neg c4] at H
   exact absurd H (by simp)
  rw [if_pos c4] at H
  have c4b0 : decide (0 < (a0.size : Int)) = true := decide_eq_true c4
  have c4b1 : decide (0 < a0.size) = true := decide_eq_true (by omega)
  clear c4
  have H' := Aside0.mk H
  clear H
  have p5 : 0 ≤ (0 : Int) := (by omega)
  have q5 : 0 < a0.size := (by have : (0 : Int) < (a0.size : Int) := of_decide_eq_true (by assumption); omega)
  have hx5 : ∀ h : 0 < a0.size, ((a0[0]'h).toNat : Int) = bt a0 0 := bt_at a0 0
  clear p5
  have qi5 : (0 < (a0.size : Int)) = True := eq_true (of_decide_eq_true (by assumption))
  replace q5 := eq_true q5
  go_wp2
  go_meet
  case rel => exact ⟨_, (((bt a0 0) == 45)), (by first | rfl | (simp; done) | (simp [*]; done)), H', ⟨by first | omega | exact Nat.le_refl _⟩, by repeat (first | exact ap_.refl _ | apply ap_.step)⟩
 case rest =>
  clear HC2
  obtain ⟨kq, x14_1, rfl, HA, HJ1, ⟨mc1, rfl⟩⟩ := hcut
  cases kq with
  | zero => exact absurd HA.out (by simp [aj_.j0])
  | succ kj1 =>
   have H := HA.out
   clear HA
   simp only [aj_.j0] at H
   have HC6 := Aside0.mk H
   clear H
   go_upto_if 14 with (fail)
   go_cut [4] (fun v4 wc => ∃ (kq : Nat) (x4_5 : Int), v4 = .int .i64 x4_5 ∧ Aside0 (aj_.j1 kq a0 x4_5 = some (r1, r2)) ∧ Aside0 (kq ≤ kj1) ∧ ap_ w wc)
   case first =>
    have H := HC6.out
    clear HC6
    by_cases c7 : x14_1 = true
    rotate_left
    ·replace c7 := Bool.eq_false_iff.mpr c7
     subst c7
     have H1 : (aj_.j1 kj1 a0 0) = some (r1, r2) := by rw [if_neg (show ¬ (false = true) by decide)] at H; exact H
     clear H
     have H := H1
     clear H1
     have H' := Aside0.mk H
     clear H
     go_wp2
     go_meet
     case rel => exact ⟨_, (0), (by first | rfl | (simp; done) | (simp [*]; done)), H', ⟨by have := HJ1.out; first | omega | exact Nat.le_refl _⟩, by repeat (first | exact ap_.refl _ | apply ap_.step)⟩
    subst c7
    have H1 : (aj_.j1 kj1 a0 1) = some (r1, r2) := by rw [if_pos rfl] at H; exact H
    clear H
    have H := H1
    clear H1
    have H' := Aside0.mk H
    clear H
    go_wp2
    go_meet
    case rel => exact ⟨_, (1), (by first | rfl | (simp; done) | (simp [*]; done)), H', ⟨by have := HJ1.out; first | omega | exact Nat.le_refl _⟩, by repeat (first | exact ap_.refl _ | apply ap_.step)⟩
   case rest =>
    clear HC6
    obtain ⟨kq, x4_5, rfl, HA, HJ5, ⟨mc5, rfl⟩⟩ := hcut
    cases kq with
    | zero => exact absurd HA.out (by simp [aj_.j1])
    | succ kj5 =>
     have H := HA.out
     clear HA
     simp only [aj_.j1] at H
     have HC8 := Aside0.mk H
     clear H
     go_upto_region 4 with (fail)
     go_cut [36] (fun v36 wc => ∃ (kq : Nat) (x36_7 : Bool), v36 = .bool x36_7 ∧ Aside0 (aj_.j2 kq a0 x4_5 x36_7 = some (r1, r2)) ∧ Aside0 (kq ≤ kj5) ∧ ap_ w wc)
     case first =>
      have H := HC8.out
      clear HC8
      by_cases c9 : (a0.size : Int) = x4_5
      rotate_left
      ·rw [if_neg c9] at H
       have c9b0 : ((a0.size : Int) == x4_5) = false := beq_eq_false_iff_ne.mpr c9
       have c9b1 : ((a0.size : Int) != x4_5) = true := bne_iff_ne.mpr c9
       (first | rw [c9b0] | (simp only [i64_w, i32_w]; rw [c9b0]) | (simp only [c9b1, Bool.not_true, Bool.not_false]) | (simp only [c9b0, Bool.not_true, Bool.not_false]) | skip)
       by_cases c10 : (wrap64 ((a0.size : Int) - x4_5)) > 18
       rotate_left
       ·rw [if_neg c10] at H
        have c10b0 : decide (18 < (wrap64 ((a0.size : Int) - x4_5))) = false := decide_eq_false c10
        clear c10
        by_cases c11 : 0 ≤ x4_5
        rotate_left
        ·rw [if_neg c11] at H
         exact absurd H (by simp)
        rw [if_pos c11] at H
        have c11b0 : decide (0 ≤ x4_5) = true := decide_eq_true c11
        clear c11
        by_cases c12 : x4_5 < (a0.size : Int)
        rotate_left
        ·rw [if_neg c12] at H
         exact absurd H (by simp)
        rw [if_pos c12] at H
        have c12b0 : decide (x4_5 < (a0.size : Int)) = true := decide_eq_true c12
        clear c12
        by_cases c14 : (bt a0 x4_5) = 48
        rotate_left
        ·rw [if_neg c14] at H
         have c14b0 : ((bt a0 x4_5) == 48) = false := beq_eq_false_iff_ne.mpr c14
         have c14b1 : ((bt a0 x4_5) != 48) = true := bne_iff_ne.mpr c14
         have H' := Aside0.mk H
         clear H
         have p13 : 0 ≤ (x4_5 : Int) := of_decide_eq_true (by assumption)
         have q13 : x4_5 < (a0.size : Int) := of_decide_eq_true (by assumption)
         have hx13 := bt_at a0 x4_5
         replace p13 := eq_true p13
         replace q13 := eq_true q13
         go_wp2
         go_meet
         case rel => exact ⟨_, (false), (by first | rfl | (simp; done) | (simp [*]; done)), H', ⟨by have := HJ1.out; have := HJ5.out; first | omega | exact Nat.le_refl _⟩, by repeat (first | exact ap_.refl _ | apply ap_.step)⟩
        rw [if_pos c14] at H
        have c14b0 : ((bt a0 x4_5) == 48) = true := beq_iff_eq.mpr c14
        have c14b1 : ((bt a0 x4_5) != 48) = false := bne_eq_false_iff_eq.mpr c14
        clear c14
        have H' := Aside0.mk H
        clear H
        have p13 : 0 ≤ (x4_5 : Int) := of_decide_eq_true (by assumption)
        have q13 : x4_5 < (a0.size : Int) := of_decide_eq_true (by assumption)
        have hx13 := bt_at a0 x4_5
        replace p13 := eq_true p13
        replace q13 := eq_true q13
        go_wp2
        go_meet
        case rel => exact ⟨_, (decide ((a0.size : Int) > 1)), (by first | rfl | (simp; done) | (simp [*]; done)), H', ⟨by have := HJ1.out; have := HJ5.out; first | omega | exact Nat.le_refl _⟩, by repeat (first | exact ap_.refl _ | apply ap_.step)⟩
       rw [if_pos c10] at H
       have c10b0 : decide (18 < (wrap64 ((a0.size : Int) - x4_5))) = true := decide_eq_true c10
       clear c10
       have H' := Aside0.mk H
       clear H
       go_wp2
       go_meet
       case rel => exact ⟨_, (true), (by first | rfl | (simp; done) | (simp [*]; done)), H', ⟨by have := HJ1.out; have := HJ5.out; first | omega | exact Nat.le_refl _⟩, by repeat (first | exact ap_.refl _ | apply ap_.step)⟩
      rw [if_pos c9] at H
      have c9b0 : ((a0.size : Int) == x4_5) = true := beq_iff_eq.mpr c9
      have c9b1 : ((a0.size : Int) != x4_5) = false := bne_eq_false_iff_eq.mpr c9
      clear c9
      (first | rw [c9b0] | (simp only [i64_w, i32_w]; rw [c9b0]) | (simp only [c9b1, Bool.not_true, Bool.not_false]) | (simp only [c9b0, Bool.not_true, Bool.not_false]) | skip)
      have H' := Aside0.mk H
      clear H
      go_wp2
      go_meet
      case rel => exact ⟨_, (true), (by first | rfl | (simp; done) | (simp [*]; done)), H', ⟨by have := HJ1.out; have := HJ5.out; first | omega | exact Nat.le_refl _⟩, by repeat (first | exact ap_.refl _ | apply ap_.step)⟩
     case rest =>
      clear HC8
      obtain ⟨kq, x36_7, rfl, HA, HJ7, ⟨mc7, rfl⟩⟩ := hcut
      cases kq with
      | zero => exact absurd HA.out (by simp [aj_.j2])
      | succ kj7 =>
       have H := HA.out
       clear HA
       simp only [aj_.j2] at H
       by_cases c15 : x36_7 = true
       rotate_left
       ·replace c15 := Bool.eq_false_iff.mpr c15
        subst c15
        have H1 : (aj_.l0 kj7 a0 x4_5 0 x4_5) = some (r1, r2) := by rw [if_neg (show ¬ (false = true) by decide)] at H; exact H
        clear H
        have H := H1
        clear H1
        have H' := Aside0.mk H
        clear H
        go_wp2
        (try simp only [Act.put, lsa_, ls0_, ls1_])
        go_loopg [5, 6] kj7 (fun kq v5 v6 w' => ∃ (x5_4 : Int) (x6_4 : Int), v5 = .int .i64 x5_4 ∧ v6 = .int .i64 x6_4 ∧ Aside0 (aj_.l0 kq a0 x4_5 x5_4 x6_4 = some (r1, r2)) ∧ Aside0 (kq ≤ kj7) ∧ ap_ w w')
        case atStart => exact ⟨(0), (x4_5), (by first | rfl | (simp; done) | (simp [*]; done)), (by first | rfl | (simp; done) | (simp [*]; done)), H', ⟨Nat.le_refl _⟩, by repeat (first | exact ap_.refl _ | apply ap_.step)⟩
        case round =>
         clear H'
         obtain ⟨x5_4, x6_4, rfl, rfl, HA, HK4, ⟨m4, rfl⟩⟩ := hrel
         cases gk with
         | zero => exact absurd HA.out (by simp [aj_.l0])
         | succ k4 =>
          have H := HA.out
          clear HA
          simp only [aj_.l0] at H
          by_cases c16 : x6_4 < (a0.size : Int)
          rotate_left
          ·rw [if_neg c16] at H
           have c16b0 : decide (x6_4 < (a0.size : Int)) = false := decide_eq_false c16
           clear c16
           by_cases c23 : x4_5 = 1
           rotate_left
           ·rw [if_neg c23] at H
            have c23b0 : (x4_5 == 1) = false := beq_eq_false_iff_ne.mpr c23
            have c23b1 : (x4_5 != 1) = true := bne_iff_ne.mpr c23
            simp only [Option.some.injEq, Prod.mk.injEq] at H
            obtain ⟨rfl, rfl⟩ := H
            go_wp2
            go_ret2
            exact ⟨by first | rfl | (simp; done) | (simp [*]; done), by repeat (first | exact ap_.refl _ | apply ap_.step)⟩
           rw [if_pos c23] at H
           have c23b0 : (x4_5 == 1) = true := beq_iff_eq.mpr c23
           have c23b1 : (x4_5 != 1) = false := bne_eq_false_iff_eq.mpr c23
           clear c23
           simp only [Option.some.injEq, Prod.mk.injEq] at H
           obtain ⟨rfl, rfl⟩ := H
           go_wp2
           go_ret2
           exact ⟨by first | rfl | (simp; done) | (simp [*]; done), by repeat (first | exact ap_.refl _ | apply ap_.step)⟩
          rw [if_pos c16] at H
          have c16b0 : decide (x6_4 < (a0.size : Int)) = true := decide_eq_true c16
          clear c16
          by_cases c17 : 0 ≤ x6_4
          rotate_left
          ·rw [if_neg c17] at H
           exact absurd H (by simp)
          rw [if_pos c17] at H
          have c17b0 : decide (0 ≤ x6_4) = true := decide_eq_true c17
          clear c17
          replace H := Option.bind_eq_some_iff.mp H
          obtain ⟨t101, A190, H⟩ := H
          (try dsimp only at H)
          have A19 := Aside0.mk A190
          clear A190
          have HC20 := Aside0.mk H
          clear H
          have p18 : 0 ≤ (x6_4 : Int) := of_decide_eq_true (by assumption)
          have q18 : x6_4 < (a0.size : Int) := of_decide_eq_true (by assumption)
          have hx18 := bt_at a0 x6_4
          replace p18 := eq_true p18
          replace q18 := eq_true q18
          go_upto_if 48 with (first | ((with_reducible refine af_ (f := 43) rfl ?_); refine aJ_ (some 47) rfl rfl Tryz.func43 (by kernel_rfl) rfl #[.int .u8 (bt a0 x6_4)] rfl (by first | rfl | (simp only [lma_, lmc_, lmn_]; first | done | rfl)) ?_; (with_reducible refine (ce_.calls (bt a0 x6_4) t101 _ A19.out).mono ?_); rintro e w' ⟨rfl, ⟨nd, rfl⟩⟩; refine ⟨_, rfl, ?_⟩; skip))
          (try simp only [Act.put, lsa_, ls0_, ls1_])
          have H := HC20.out
          clear HC20
          by_cases c21 : t101 = true
          rotate_left
          ·replace c21 := Bool.eq_false_iff.mpr c21
           subst c21
           have H1 : (some (0, false)) = some (r1, r2) := by rw [if_neg (show ¬ (false = true) by decide)] at H; exact H
           clear H
           have H := H1
           clear H1
           simp only [Option.some.injEq, Prod.mk.injEq] at H
           obtain ⟨rfl, rfl⟩ := H
           go_wp2
           go_ret2
           exact ⟨by first | rfl | (simp; done) | (simp [*]; done), by repeat (first | exact ap_.refl _ | apply ap_.step)⟩
          subst c21
          have H1 : (aj_.l0 k4 a0 x4_5 (wrap64 ((wrap64 (10 * x5_4)) + (((bt a0 x6_4) - 48) % 256))) (wrap64 (x6_4 + 1))) = some (r1, r2) := by rw [if_pos rfl] at H; exact H
          clear H
          have H := H1
          clear H1
          have H' := Aside0.mk H
          clear H
          have p22 : 0 ≤ (x6_4 : Int) := of_decide_eq_true (by assumption)
          have q22 : x6_4 < (a0.size : Int) := of_decide_eq_true (by assumption)
          have hx22 := bt_at a0 x6_4
          replace p22 := eq_true p22
          replace q22 := eq_true q22
          go_wp2
          go_roundg k4
          case measure => have := HJ1.out; have := HJ5.out; have := HJ7.out; have := HK4.out; omega
          case rel => exact ⟨(wrap64 ((wrap64 (10 * x5_4)) + (((bt a0 x6_4) - 48) % 256))), (wrap64 (x6_4 + 1)), (by first | rfl | (simp; done) | (simp [*]; done)), (by first | rfl | (simp; done) | (simp [*]; done)), H', ⟨by have := HJ1.out; have := HJ5.out; have := HJ7.out; have := HK4.out; omega⟩, by repeat (first | exact ap_.refl _ | apply ap_.step)⟩
       subst c15
       have H1 : (some (0, false)) = some (r1, r2) := by rw [if_pos rfl] at H; exact H
       clear H
       have H := H1
       clear H1
       simp only [Option.some.injEq, Prod.mk.injEq] at H
       obtain ⟨rfl, rfl⟩ := H
       go_wp2
       go_ret2
       exact ⟨by first | rfl | (simp; done) | (simp [*]; done), by repeat (first | exact ap_.refl _ | apply ap_.step)⟩
def ao_.f (a0 : Int) (a1 : Int) (a2 : Int) : Option (Bool) := if a0 ≥ a1 then (some (decide (a0 ≤ a2))) else (some false)
set_option maxHeartbeats 8000000 in
set_option maxRecDepth 100000 in
theorem ao_.calls (a0 : Int) (a1 : Int) (a2 : Int) (r : Bool) (w : World) (h : ao_.f a0 a1 a2 = some r) :
  Calls Tryz.prog 45 #[.int .i64 a0, .int .i64 a1, .int .i64 a2] w fun e w' => e = .returned (.bool r) ∧ ap_ w w' := by
 have H : (if a0 ≥ a1 then (some (decide (a0 ≤ a2))) else (some false)) = some r := h
 clear h
 by_cases c4 : a0 ≥ a1
 rotate_left
 ·rw [if_neg c4] at H
  have c4b0 : decide (a1 ≤ a0) = false := decide_eq_false c4
  clear c4
  obtain rfl := Option.some.inj H
  go_enter Tryz.func45, Tryz.ntmps45
  go_wp2
  go_ret
  exact ⟨by first | rfl | (simp; done) | (simp [*]; done), by repeat (first | exact ap_.refl _ | apply ap_.step)⟩
 rw [if_pos c4] at H
 have c4b0 : decide (a1 ≤ a0) = true := decide_eq_true c4
 clear c4
 obtain rfl := Option.some.inj H
 go_enter Tryz.func45, Tryz.ntmps45
 go_wp2
 go_ret
 exact ⟨by first | rfl | (simp; done) | (simp [*]; done), by repeat (first | exact ap_.refl _ | apply ap_.step)⟩
def cG_.f  : Option (List ByteArray) := some (([(⟨#[97, 115, 104]⟩ : ByteArray), (⟨#[98, 101, 101, 99, 104]⟩ : ByteArray), (⟨#[98, 105, 114, 99, 104]⟩ : ByteArray), (⟨#[99, 104, 101, 114, 114, 121]⟩ : ByteArray), (⟨#[101, 98, 111, 110, 121]⟩ : ByteArray), (⟨#[104, 111, 108, 108, 121]⟩ : ByteArray), (⟨#[109, 97, 112, 108, 101]⟩ : ByteArray), (⟨#[111, 97, 107]⟩ : ByteArray), (⟨#[114, 111, 115, 101, 119, 111, 111, 100]⟩ : ByteArray), (⟨#[119, 97, 108, 110, 117, 116]⟩ : ByteArray)] : List ByteArray))
set_option maxHeartbeats 8000000 in
set_option maxRecDepth 100000 in
theorem cG_.calls  (r : List ByteArray) (w : World) (h : cG_.f  = some r) :
  Calls Tryz.prog 81 #[] w fun e w' => ∃ v0_ : Value, e = .returned (v0_) ∧ Kd.R Kd.string 9 w' w.heap.size (fun _ => True) v0_ r ∧ Below w.heap.size w w' := by
 have HB := Aside0.mk (Below.refl w.heap.size w)
 have H : (some (([(⟨#[97, 115, 104]⟩ : ByteArray), (⟨#[98, 101, 101, 99, 104]⟩ : ByteArray), (⟨#[98, 105, 114, 99, 104]⟩ : ByteArray), (⟨#[99, 104, 101, 114, 114, 121]⟩ : ByteArray), (⟨#[101, 98, 111, 110, 121]⟩ : ByteArray), (⟨#[104, 111, 108, 108, 121]⟩ : ByteArray), (⟨#[109, 97, 112, 108, 101]⟩ : ByteArray), (⟨#[111, 97, 107]⟩ : ByteArray), (⟨#[114, 111, 115, 101, 119, 111, 111, 100]⟩ : ByteArray), (⟨#[119, 97, 108, 110, 117, 116]⟩ : ByteArray)] : List ByteArray))) = some r := h
 clear h
 obtain ⟨y101, hy101⟩ : ∃ y_ : List ByteArray, y_ = (([(⟨#[97, 115, 104]⟩ : ByteArray), (⟨#[98, 101, 101, 99, 104]⟩ : ByteArray), (⟨#[98, 105, 114, 99, 104]⟩ : ByteArray), (⟨#[99, 104, 101, 114, 114, 121]⟩ : ByteArray), (⟨#[101, 98, 111, 110, 121]⟩ : ByteArray), (⟨#[104, 111, 108, 108, 121]⟩ : ByteArray), (⟨#[109, 97, 112, 108, 101]⟩ : ByteArray), (⟨#[111, 97, 107]⟩ : ByteArray), (⟨#[114, 111, 115, 101, 119, 111, 111, 100]⟩ : ByteArray), (⟨#[119, 97, 108, 110, 117, 116]⟩ : ByteArray)] : List ByteArray)) := ⟨_, rfl⟩
 replace H : (some y101) = some r := by first | (rw [hy101]; with_reducible exact H) | (have H2_ := (Option.bind_some _ _).symm.trans H; rw [hy101]; with_reducible exact H2_) | (have H2_ := (Option.bind_some _ _).symm.trans H; with_reducible exact H2_) | with_reducible exact H | (rw [hy101]; exact H) | exact H
 have Ny101 := Aside0.mk hy101
 clear hy101
 obtain rfl := Option.some.inj H
 go_enter Tryz.func81, Tryz.ntmps81
 go_wp2_with (first | ((with_reducible refine aI_ (N := 1) rfl ?_); refine Kd.R_lit Kd.string _ 9 ?hg (N := 1) ?hd (xs := ([(⟨#[97, 115, 104]⟩ : ByteArray), (⟨#[98, 101, 101, 99, 104]⟩ : ByteArray), (⟨#[98, 105, 114, 99, 104]⟩ : ByteArray), (⟨#[99, 104, 101, 114, 114, 121]⟩ : ByteArray), (⟨#[101, 98, 111, 110, 121]⟩ : ByteArray), (⟨#[104, 111, 108, 108, 121]⟩ : ByteArray), (⟨#[109, 97, 112, 108, 101]⟩ : ByteArray), (⟨#[111, 97, 107]⟩ : ByteArray), (⟨#[114, 111, 115, 101, 119, 111, 111, 100]⟩ : ByteArray), (⟨#[119, 97, 108, 110, 117, 116]⟩ : ByteArray)] : List ByteArray)) (inner := [.string (⟨#[97, 115, 104]⟩ : ByteArray), .string (⟨#[98, 101, 101, 99, 104]⟩ : ByteArray), .string (⟨#[98, 105, 114, 99, 104]⟩ : ByteArray), .string (⟨#[99, 104, 101, 114, 114, 121]⟩ : ByteArray), .string (⟨#[101, 98, 111, 110, 121]⟩ : ByteArray), .string (⟨#[104, 111, 108, 108, 121]⟩ : ByteArray), .string (⟨#[109, 97, 112, 108, 101]⟩ : ByteArray), .string (⟨#[111, 97, 107]⟩ : ByteArray), .string (⟨#[114, 111, 115, 101, 119, 111, 111, 100]⟩ : ByteArray), .string (⟨#[119, 97, 108, 110, 117, 116]⟩ : ByteArray)]) (ok := fun _ => True) (okp := fun _ => True) ?hr ?hp (fun _ hk => hk) trivial (Below.refl _ _) (Nat.le_refl _) (by simp) ?_; (case hd => rfl); (case hg => rfl); (case hr => (go_simp; try rfl)); (case hp => exact (Reps.one (show Kd.M Kd.string _ _ _ (⟨#[97, 115, 104]⟩ : ByteArray) [.string (⟨#[97, 115, 104]⟩ : ByteArray)] from rfl) (Reps.one (show Kd.M Kd.string _ _ _ (⟨#[98, 101, 101, 99, 104]⟩ : ByteArray) [.string (⟨#[98, 101, 101, 99, 104]⟩ : ByteArray)] from rfl) (Reps.one (show Kd.M Kd.string _ _ _ (⟨#[98, 105, 114, 99, 104]⟩ : ByteArray) [.string (⟨#[98, 105, 114, 99, 104]⟩ : ByteArray)] from rfl) (Reps.one (show Kd.M Kd.string _ _ _ (⟨#[99, 104, 101, 114, 114, 121]⟩ : ByteArray) [.string (⟨#[99, 104, 101, 114, 114, 121]⟩ : ByteArray)] from rfl) (Reps.one (show Kd.M Kd.string _ _ _ (⟨#[101, 98, 111, 110, 121]⟩ : ByteArray) [.string (⟨#[101, 98, 111, 110, 121]⟩ : ByteArray)] from rfl) (Reps.one (show Kd.M Kd.string _ _ _ (⟨#[104, 111, 108, 108, 121]⟩ : ByteArray) [.string (⟨#[104, 111, 108, 108, 121]⟩ : ByteArray)] from rfl) (Reps.one (show Kd.M Kd.string _ _ _ (⟨#[109, 97, 112, 108, 101]⟩ : ByteArray) [.string (⟨#[109, 97, 112, 108, 101]⟩ : ByteArray)] from rfl) (Reps.one (show Kd.M Kd.string _ _ _ (⟨#[111, 97, 107]⟩ : ByteArray) [.string (⟨#[111, 97, 107]⟩ : ByteArray)] from rfl) (Reps.one (show Kd.M Kd.string _ _ _ (⟨#[114, 111, 115, 101, 119, 111, 111, 100]⟩ : ByteArray) [.string (⟨#[114, 111, 115, 101, 119, 111, 111, 100]⟩ : ByteArray)] from rfl) (Reps.one (show Kd.M Kd.string _ _ _ (⟨#[119, 97, 108, 110, 117, 116]⟩ : ByteArray) [.string (⟨#[119, 97, 108, 110, 117, 116]⟩ : ByteArray)] from rfl) (Reps.none _ _)))))))))))); intro v102 w1 ho2 hb hg_ hnew_; clear hg_ hnew_; (first | rw [← Ny101.out] at ho2 | (simp only [Int.reduceToNat] at ho2; rw [← Ny101.out] at ho2)); have HO103 := Aside0.mk (Kd.bz_ ho2 (ad_ (bz HB.out))); replace HB := Aside0.mk (ac_ (bz HB.out) hb); clear hb ho2))
 go_ret
 exact ⟨_, by first | rfl | (simp [*, ai_, ah_] <;> rfl), rz HO103.out, bz HB.out⟩
def bQ_.l0 : Nat → ByteArray → List ByteArray → Int → Option (Int)
 | 0, _, _, _ => none
 | k + 1, x0, x3, x4 => if x4 < (x3.length : Int) then (if 0 ≤ x4 then (if (rdOf ByteArray.empty x3 x4).toList = x0.toList then (some x4) else (bQ_.l0 k x0 x3 (wrap64 (x4 + 1)))) else (none)) else (some (-1))
def bQ_.f (k : Nat) (a0 : ByteArray) : Option (Int) := (cG_.f).bind fun t101 => (bQ_.l0 k a0 t101 0)
set_option maxHeartbeats 8000000 in
set_option maxRecDepth 100000 in
theorem bQ_.calls (k : Nat) (a0 : ByteArray) (r : Int) (w : World) (h : bQ_.f k a0 = some r) :
  Calls Tryz.prog 62 #[.string a0] w fun e w' => e = .returned (.int .i64 r) ∧ Below w.heap.size w w' := by
 have HB := Aside0.mk (Below.refl w.heap.size w)
 have H : ((cG_.f).bind fun t101 => (bQ_.l0 k a0 t101 0)) = some r := h
 clear h
 replace H := Option.bind_eq_some_iff.mp H
 obtain ⟨t101, A20, H⟩ := H
 (try dsimp only at H)
 have A2 := Aside0.mk A20
 clear A20
 have H' := Aside0.mk H
 clear H
 go_enter Tryz.func62, Tryz.ntmps62
 go_wp2_with (first | ((with_reducible refine af_ (f := 81) rfl ?_); refine aJ_ (some 5) rfl rfl Tryz.func81 (by kernel_rfl) rfl #[] rfl (by first | rfl | (simp only [lma_, lmc_, lmn_]; first | done | rfl)) ?_; (with_reducible refine (cG_.calls  t101 _ A2.out).mono ?_); rintro e w3 ⟨v102, rfl, ho0, hb⟩; refine ⟨_, rfl, ?_⟩; have HO103 := Aside0.mk (Kd.bz_ ho0 (ad_ (bz HB.out))); replace HB := Aside0.mk (ac_ (bz HB.out) hb); (try clear hb); (try clear ho0)))
 (try simp only [Act.put, lsa_, ls0_, ls1_])
 go_loopg [4] k (fun kq v4 w' => ∃ (x4_1 : Int), v4 = .int .i64 x4_1 ∧ Aside0 (bQ_.l0 kq a0 t101 x4_1 = some r) ∧ Aside0 (kq ≤ k) ∧ Aside0 (Kd.R Kd.string 9 w' w.heap.size (fun _ => True) v102 t101) ∧ Aside0 (Below w.heap.size w w'))
 case atStart => exact ⟨(0), (by first | rfl | (simp; done) | (simp [*]; done)), H', ⟨Nat.le_refl _⟩, ⟨rz HO103.out⟩, ⟨bz HB.out⟩⟩
 case round =>
  clear H'
  obtain ⟨x4_1, rfl, HA, HK1, HO_3, HB⟩ := hrel
  cases gk with
  | zero => exact absurd HA.out (by simp [bQ_.l0])
  | succ k1 =>
   have H := HA.out
   clear HA
   simp only [bQ_.l0] at H
   by_cases c4 : x4_1 < (t101.length : Int)
   rotate_left
   ·rw [if_neg c4] at H
    have c4b0 : decide (x4_1 < (t101.length : Int)) = false := decide_eq_false c4
    clear c4
    obtain rfl := Option.some.inj H
    obtain ⟨Ao9, co9, eo9⟩ := Kd.bv_ HO_3.out
    subst eo9
    go_wp2
    go_ret
    exact ⟨by first | rfl | (simp [*, ai_, ah_] <;> rfl), bz HB.out⟩
   rw [if_pos c4] at H
   have c4b0 : decide (x4_1 < (t101.length : Int)) = true := decide_eq_true c4
   clear c4
   by_cases c5 : 0 ≤ x4_1
   rotate_left
   ·rw [if_neg c5] at H
    exact absurd H (by simp)
   rw [if_pos c5] at H
   have c5b0 : decide (0 ≤ x4_1) = true := decide_eq_true c5
   clear c5
   by_cases c6 : (rdOf ByteArray.empty t101 x4_1).toList = a0.toList
   rotate_left
   ·rw [if_neg c6] at H
    have c6b0 : ((rdOf ByteArray.empty t101 x4_1).toList == a0.toList) = false := beq_eq_false_iff_ne.mpr c6
    have c6b1 : ((rdOf ByteArray.empty t101 x4_1).toList != a0.toList) = true := bne_iff_ne.mpr c6
    have H' := Aside0.mk H
    clear H
    obtain ⟨Ao8, co8, eo8⟩ := Kd.bv_ HO_3.out
    subst eo8
    have p104 : 0 ≤ (x4_1 : Int) := of_decide_eq_true (by assumption)
    have q104 : x4_1 < (t101.length : Int) := of_decide_eq_true (by assumption)
    obtain ⟨ad104, e104, hx104_0⟩ := Kd.bf_ (Kd.av_ HO_3.out).2.2 x4_1 p104 q104
    cases e104
    replace p104 := eq_true p104
    replace q104 := eq_true q104
    go_wp2
    go_roundg k1
    case measure => have := HK1.out; omega
    case rel => exact ⟨(wrap64 (x4_1 + 1)), (by first | rfl | (simp; done) | (simp [*]; done)), H', ⟨by have := HK1.out; omega⟩, ⟨rz HO_3.out⟩, ⟨bz HB.out⟩⟩
   rw [if_pos c6] at H
   have c6b0 : ((rdOf ByteArray.empty t101 x4_1).toList == a0.toList) = true := beq_iff_eq.mpr c6
   have c6b1 : ((rdOf ByteArray.empty t101 x4_1).toList != a0.toList) = false := bne_eq_false_iff_eq.mpr c6
   clear c6
   obtain rfl := Option.some.inj H
   obtain ⟨Ao7, co7, eo7⟩ := Kd.bv_ HO_3.out
   subst eo7
   have p104 : 0 ≤ (x4_1 : Int) := of_decide_eq_true (by assumption)
   have q104 : x4_1 < (t101.length : Int) := of_decide_eq_true (by assumption)
   obtain ⟨ad104, e104, hx104_0⟩ := Kd.bf_ (Kd.av_ HO_3.out).2.2 x4_1 p104 q104
   cases e104
   replace p104 := eq_true p104
   replace q104 := eq_true q104
   go_wp2
   go_ret
   exact ⟨by first | rfl | (simp [*, ai_, ah_] <;> rfl), bz HB.out⟩
def cx_.f  : Option ((List (List Int))) := some (([(([20, 40, 310] : List Int)), (([35, 45, 410] : List Int)), (([15, 33, 280] : List Int)), (([50, 36, 240] : List Int)), (([95, 85, 270] : List Int)), (([5, 35, 370] : List Int)), (([10, 42, 290] : List Int)), (([40, 40, 330] : List Int)), (([80, 60, 220] : List Int)), (([70, 38, 260] : List Int))] : List (List Int)))
set_option maxHeartbeats 8000000 in
set_option maxRecDepth 100000 in
theorem cx_.calls  (r : List (List Int)) (w : World) (h : cx_.f  = some r) :
  Calls Tryz.prog 63 #[] w fun e w' => ∃ v0_ : Value, e = .returned (v0_) ∧ Kd.N (Kd.slice 2 (Kd.int .i64)) 62 w' w.heap.size (fun k_ => (w.heap.size ≤ k_)) v0_ r ∧ Below w.heap.size w w' := by
 have HB := Aside0.mk (Below.refl w.heap.size w)
 have H : (some (([(([20, 40, 310] : List Int)), (([35, 45, 410] : List Int)), (([15, 33, 280] : List Int)), (([50, 36, 240] : List Int)), (([95, 85, 270] : List Int)), (([5, 35, 370] : List Int)), (([10, 42, 290] : List Int)), (([40, 40, 330] : List Int)), (([80, 60, 220] : List Int)), (([70, 38, 260] : List Int))] : List (List Int)))) = some r := h
 clear h
 obtain ⟨y101, hy101⟩ : ∃ y_ : List Int, y_ = (([20, 40, 310] : List Int)) := ⟨_, rfl⟩
 replace H : (some (([y101, (([35, 45, 410] : List Int)), (([15, 33, 280] : List Int)), (([50, 36, 240] : List Int)), (([95, 85, 270] : List Int)), (([5, 35, 370] : List Int)), (([10, 42, 290] : List Int)), (([40, 40, 330] : List Int)), (([80, 60, 220] : List Int)), (([70, 38, 260] : List Int))] : List (List Int)))) = some r := by first | (rw [hy101]; with_reducible exact H) | (have H2_ := (Option.bind_some _ _).symm.trans H; rw [hy101]; with_reducible exact H2_) | (have H2_ := (Option.bind_some _ _).symm.trans H; with_reducible exact H2_) | with_reducible exact H | (rw [hy101]; exact H) | exact H
 have Ny101 := Aside0.mk hy101
 clear hy101
 obtain ⟨y104, hy104⟩ : ∃ y_ : List Int, y_ = (([35, 45, 410] : List Int)) := ⟨_, rfl⟩
 replace H : (some (([y101, y104, (([15, 33, 280] : List Int)), (([50, 36, 240] : List Int)), (([95, 85, 270] : List Int)), (([5, 35, 370] : List Int)), (([10, 42, 290] : List Int)), (([40, 40, 330] : List Int)), (([80, 60, 220] : List Int)), (([70, 38, 260] : List Int))] : List (List Int)))) = some r := by first | (rw [hy104]; with_reducible exact H) | (have H2_ := (Option.bind_some _ _).symm.trans H; rw [hy104]; with_reducible exact H2_) | (have H2_ := (Option.bind_some _ _).symm.trans H; with_reducible exact H2_) | with_reducible exact H | (rw [hy104]; exact H) | exact H
 have Ny104 := Aside0.mk hy104
 clear hy104
 obtain ⟨y107, hy107⟩ : ∃ y_ : List Int, y_ = (([15, 33, 280] : List Int)) := ⟨_, rfl⟩
 replace H : (some (([y101, y104, y107, (([50, 36, 240] : List Int)), (([95, 85, 270] : List Int)), (([5, 35, 370] : List Int)), (([10, 42, 290] : List Int)), (([40, 40, 330] : List Int)), (([80, 60, 220] : List Int)), (([70, 38, 260] : List Int))] : List (List Int)))) = some r := by first | (rw [hy107]; with_reducible exact H) | (have H2_ := (Option.bind_some _ _).symm.trans H; rw [hy107]; with_reducible exact H2_) | (have H2_ := (Option.bind_some _ _).symm.trans H; with_reducible exact H2_) | with_reducible exact H | (rw [hy107]; exact H) | exact H
 have Ny107 := Aside0.mk hy107
 clear hy107
 obtain ⟨y110, hy110⟩ : ∃ y_ : List Int, y_ = (([50, 36, 240] : List Int)) := ⟨_, rfl⟩
 replace H : (some (([y101, y104, y107, y110, (([95, 85, 270] : List Int)), (([5, 35, 370] : List Int)), (([10, 42, 290] : List Int)), (([40, 40, 330] : List Int)), (([80, 60, 220] : List Int)), (([70, 38, 260] : List Int))] : List (List Int)))) = some r := by first | (rw [hy110]; with_reducible exact H) | (have H2_ := (Option.bind_some _ _).symm.trans H; rw [hy110]; with_reducible exact H2_) | (have H2_ := (Option.bind_some _ _).symm.trans H; with_reducible exact H2_) | with_reducible exact H | (rw [hy110]; exact H) | exact H
 have Ny110 := Aside0.mk hy110
 clear hy110
 obtain ⟨y113, hy113⟩ : ∃ y_ : List Int, y_ = (([95, 85, 270] : List Int)) := ⟨_, rfl⟩
 replace H : (some (([y101, y104, y107, y110, y113, (([5, 35, 370] : List Int)), (([10, 42, 290] : List Int)), (([40, 40, 330] : List Int)), (([80, 60, 220] : List Int)), (([70, 38, 260] : List Int))] : List (List Int)))) = some r := by first | (rw [hy113]; with_reducible exact H) | (have H2_ := (Option.bind_some _ _).symm.trans H; rw [hy113]; with_reducible exact H2_) | (have H2_ := (Option.bind_some _ _).symm.trans H; with_reducible exact H2_) | with_reducible exact H | (rw [hy113]; exact H) | exact H
 have Ny113 := Aside0.mk hy113
 clear hy113
 obtain ⟨y116, hy116⟩ : ∃ y_ : List Int, y_ = (([5, 35, 370] : List Int)) := ⟨_, rfl⟩
 replace H : (some (([y101, y104, y107, y110, y113, y116, (([10, 42, 290] : List Int)), (([40, 40, 330] : List Int)), (([80, 60, 220] : List Int)), (([70, 38, 260] : List Int))] : List (List Int)))) = some r := by first | (rw [hy116]; with_reducible exact H) | (have H2_ := (Option.bind_some _ _).symm.trans H; rw [hy116]; with_reducible exact H2_) | (have H2_ := (Option.bind_some _ _).symm.trans H; with_reducible exact H2_) | with_reducible exact H | (rw [hy116]; exact H) | exact H
 have Ny116 := Aside0.mk hy116
 clear hy116
 obtain ⟨y119, hy119⟩ : ∃ y_ : List Int, y_ = (([10, 42, 290] : List Int)) := ⟨_, rfl⟩
 replace H : (some (([y101, y104, y107, y110, y113, y116, y119, (([40, 40, 330] : List Int)), (([80, 60, 220] : List Int)), (([70, 38, 260] : List Int))] : List (List Int)))) = some r := by first | (rw [hy119]; with_reducible exact H) | (have H2_ := (Option.bind_some _ _).symm.trans H; rw [hy119]; with_reducible exact H2_) | (have H2_ := (Option.bind_some _ _).symm.trans H; with_reducible exact H2_) | with_reducible exact H | (rw [hy119]; exact H) | exact H
 have Ny119 := Aside0.mk hy119
 clear hy119
 obtain ⟨y122, hy122⟩ : ∃ y_ : List Int, y_ = (([40, 40, 330] : List Int)) := ⟨_, rfl⟩
 replace H : (some (([y101, y104, y107, y110, y113, y116, y119, y122, (([80, 60, 220] : List Int)), (([70, 38, 260] : List Int))] : List (List Int)))) = some r := by first | (rw [hy122]; with_reducible exact H) | (have H2_ := (Option.bind_some _ _).symm.trans H; rw [hy122]; with_reducible exact H2_) | (have H2_ := (Option.bind_some _ _).symm.trans H; with_reducible exact H2_) | with_reducible exact H | (rw [hy122]; exact H) | exact H
 have Ny122 := Aside0.mk hy122
 clear hy122
 obtain ⟨y125, hy125⟩ : ∃ y_ : List Int, y_ = (([80, 60, 220] : List Int)) := ⟨_, rfl⟩
 replace H : (some (([y101, y104, y107, y110, y113, y116, y119, y122, y125, (([70, 38, 260] : List Int))] : List (List Int)))) = some r := by first | (rw [hy125]; with_reducible exact H) | (have H2_ := (Option.bind_some _ _).symm.trans H; rw [hy125]; with_reducible exact H2_) | (have H2_ := (Option.bind_some _ _).symm.trans H; with_reducible exact H2_) | with_reducible exact H | (rw [hy125]; exact H) | exact H
 have Ny125 := Aside0.mk hy125
 clear hy125
 obtain ⟨y128, hy128⟩ : ∃ y_ : List Int, y_ = (([70, 38, 260] : List Int)) := ⟨_, rfl⟩
 replace H : (some (([y101, y104, y107, y110, y113, y116, y119, y122, y125, y128] : List (List Int)))) = some r := by first | (rw [hy128]; with_reducible exact H) | (have H2_ := (Option.bind_some _ _).symm.trans H; rw [hy128]; with_reducible exact H2_) | (have H2_ := (Option.bind_some _ _).symm.trans H; with_reducible exact H2_) | with_reducible exact H | (rw [hy128]; exact H) | exact H
 have Ny128 := Aside0.mk hy128
 clear hy128
 obtain ⟨y131, hy131⟩ : ∃ y_ : List (List Int), y_ = (([y101, y104, y107, y110, y113, y116, y119, y122, y125, y128] : List (List Int))) := ⟨_, rfl⟩
 replace H : (some y131) = some r := by first | (rw [hy131]; with_reducible exact H) | (have H2_ := (Option.bind_some _ _).symm.trans H; rw [hy131]; with_reducible exact H2_) | (have H2_ := (Option.bind_some _ _).symm.trans H; with_reducible exact H2_) | with_reducible exact H | (rw [hy131]; exact H) | exact H
 have Ny131 := Aside0.mk hy131
 clear hy131
 obtain rfl := Option.some.inj H
 go_enter Tryz.func63, Tryz.ntmps63
 go_wp2_with (first | ((with_reducible refine aI_ (N := 1) rfl ?_); refine Kd.R_lit (Kd.int .i64) _ 2 ?hg (N := 1) ?hd (xs := ([20, 40, 310] : List Int)) (inner := [.int .i64 20, .int .i64 40, .int .i64 310]) (ok := fun _ => True) (okp := fun _ => True) ?hr ?hp (fun _ hk => hk) trivial (Below.refl _ _) (Nat.le_refl _) (by simp) ?_; (case hd => rfl); (case hg => rfl); (case hr => (go_simp; try rfl)); (case hp => exact (Reps.one (show Kd.M (Kd.int .i64) _ _ _ 20 [.int .i64 20] from rfl) (Reps.one (show Kd.M (Kd.int .i64) _ _ _ 40 [.int .i64 40] from rfl) (Reps.one (show Kd.M (Kd.int .i64) _ _ _ 310 [.int .i64 310] from rfl) (Reps.none _ _))))); intro v102 w1 ho2 hb hg_ hnew_; clear hg_ hnew_; (first | rw [← Ny101.out] at ho2 | (simp only [Int.reduceToNat] at ho2; rw [← Ny101.out] at ho2)); have HO103 := Aside0.mk (Kd.bz_ (Kd.R_newM (M := fun k_ => (w.heap.size ≤ k_)) ho2 (ad_ (bz HB.out)) (fun k_ h_ => h_)) (ad_ (bz HB.out))); replace HB := Aside0.mk (ac_ (bz HB.out) hb); clear hb ho2) | ((with_reducible refine aI_ (N := 2) rfl ?_); refine Kd.R_lit (Kd.int .i64) _ 2 ?hg (N := 2) ?hd (xs := ([35, 45, 410] : List Int)) (inner := [.int .i64 35, .int .i64 45, .int .i64 410]) (ok := fun _ => True) (okp := fun _ => True) ?hr ?hp (fun _ hk => hk) trivial (Below.refl _ _) (Nat.le_refl _) (by simp) ?_; (case hd => rfl); (case hg => rfl); (case hr => (go_simp; try rfl)); (case hp => exact (Reps.one (show Kd.M (Kd.int .i64) _ _ _ 35 [.int .i64 35] from rfl) (Reps.one (show Kd.M (Kd.int .i64) _ _ _ 45 [.int .i64 45] from rfl) (Reps.one (show Kd.M (Kd.int .i64) _ _ _ 410 [.int .i64 410] from rfl) (Reps.none _ _))))); intro v105 w3 ho4 hb hg_ hnew_; clear hg_ hnew_; (first | rw [← Ny104.out] at ho4 | (simp only [Int.reduceToNat] at ho4; rw [← Ny104.out] at ho4)); have HO106 := Aside0.mk (Kd.bz_ (Kd.bP_ (Kd.R_newM (M := fun k_ => (w.heap.size ≤ k_)) ho4 (ad_ (bz HB.out)) (fun k_ h_ => h_)) (Kd.R_lt (rz HO103.out))) (ad_ (bz HB.out))); replace HO103 := Aside0.mk (Kd.bi_ (rz HO103.out) (Kd.bI_ ho4) hb); replace HB := Aside0.mk (ac_ (bz HB.out) hb); clear hb ho4) | ((with_reducible refine aI_ (N := 3) rfl ?_); refine Kd.R_lit (Kd.int .i64) _ 2 ?hg (N := 3) ?hd (xs := ([15, 33, 280] : List Int)) (inner := [.int .i64 15, .int .i64 33, .int .i64 280]) (ok := fun _ => True) (okp := fun _ => True) ?hr ?hp (fun _ hk => hk) trivial (Below.refl _ _) (Nat.le_refl _) (by simp) ?_; (case hd => rfl); (case hg => rfl); (case hr => (go_simp; try rfl)); (case hp => exact (Reps.one (show Kd.M (Kd.int .i64) _ _ _ 15 [.int .i64 15] from rfl) (Reps.one (show Kd.M (Kd.int .i64) _ _ _ 33 [.int .i64 33] from rfl) (Reps.one (show Kd.M (Kd.int .i64) _ _ _ 280 [.int .i64 280] from rfl) (Reps.none _ _))))); intro v108 w5 ho6 hb hg_ hnew_; clear hg_ hnew_; (first | rw [← Ny107.out] at ho6 | (simp only [Int.reduceToNat] at ho6; rw [← Ny107.out] at ho6)); have HO109 := Aside0.mk (Kd.bz_ (Kd.bP_ (Kd.bP_ (Kd.R_newM (M := fun k_ => (w.heap.size ≤ k_)) ho6 (ad_ (bz HB.out)) (fun k_ h_ => h_)) (Kd.R_lt (rz HO103.out))) (Kd.R_lt (rz HO106.out))) (ad_ (bz HB.out))); replace HO103 := Aside0.mk (Kd.bi_ (rz HO103.out) (Kd.bI_ ho6) hb); replace HO106 := Aside0.mk (Kd.bi_ (rz HO106.out) (Kd.bI_ ho6) hb); replace HB := Aside0.mk (ac_ (bz HB.out) hb); clear hb ho6) | ((with_reducible refine aI_ (N := 4) rfl ?_); refine Kd.R_lit (Kd.int .i64) _ 2 ?hg (N := 4) ?hd (xs := ([50, 36, 240] : List Int)) (inner := [.int .i64 50, .int .i64 36, .int .i64 240]) (ok := fun _ => True) (okp := fun _ => True) ?hr ?hp (fun _ hk => hk) trivial (Below.refl _ _) (Nat.le_refl _) (by simp) ?_; (case hd => rfl); (case hg => rfl); (case hr => (go_simp; try rfl)); (case hp => exact (Reps.one (show Kd.M (Kd.int .i64) _ _ _ 50 [.int .i64 50] from rfl) (Reps.one (show Kd.M (Kd.int .i64) _ _ _ 36 [.int .i64 36] from rfl) (Reps.one (show Kd.M (Kd.int .i64) _ _ _ 240 [.int .i64 240] from rfl) (Reps.none _ _))))); intro v111 w7 ho8 hb hg_ hnew_; clear hg_ hnew_; (first | rw [← Ny110.out] at ho8 | (simp only [Int.reduceToNat] at ho8; rw [← Ny110.out] at ho8)); have HO112 := Aside0.mk (Kd.bz_ (Kd.bP_ (Kd.bP_ (Kd.bP_ (Kd.R_newM (M := fun k_ => (w.heap.size ≤ k_)) ho8 (ad_ (bz HB.out)) (fun k_ h_ => h_)) (Kd.R_lt (rz HO103.out))) (Kd.R_lt (rz HO106.out))) (Kd.R_lt (rz HO109.out))) (ad_ (bz HB.out))); replace HO103 := Aside0.mk (Kd.bi_ (rz HO103.out) (Kd.bI_ ho8) hb); replace HO106 := Aside0.mk (Kd.bi_ (rz HO106.out) (Kd.bI_ ho8) hb); replace HO109 := Aside0.mk (Kd.bi_ (rz HO109.out) (Kd.bI_ ho8) hb); replace HB := Aside0.mk (ac_ (bz HB.out) hb); clear hb ho8) | ((with_reducible refine aI_ (N := 5) rfl ?_); refine Kd.R_lit (Kd.int .i64) _ 2 ?hg (N := 5) ?hd (xs := ([95, 85, 270] : List Int)) (inner := [.int .i64 95, .int .i64 85, .int .i64 270]) (ok := fun _ => True) (okp := fun _ => True) ?hr ?hp (fun _ hk => hk) trivial (Below.refl _ _) (Nat.le_refl _) (by simp) ?_; (case hd => rfl); (case hg => rfl); (case hr => (go_simp; try rfl)); (case hp => exact (Reps.one (show Kd.M (Kd.int .i64) _ _ _ 95 [.int .i64 95] from rfl) (Reps.one (show Kd.M (Kd.int .i64) _ _ _ 85 [.int .i64 85] from rfl) (Reps.one (show Kd.M (Kd.int .i64) _ _ _ 270 [.int .i64 270] from rfl) (Reps.none _ _))))); intro v114 w9 ho10 hb hg_ hnew_; clear hg_ hnew_; (first | rw [← Ny113.out] at ho10 | (simp only [Int.reduceToNat] at ho10; rw [← Ny113.out] at ho10)); have HO115 := Aside0.mk (Kd.bz_ (Kd.bP_ (Kd.bP_ (Kd.bP_ (Kd.bP_ (Kd.R_newM (M := fun k_ => (w.heap.size ≤ k_)) ho10 (ad_ (bz HB.out)) (fun k_ h_ => h_)) (Kd.R_lt (rz HO103.out))) (Kd.R_lt (rz HO106.out))) (Kd.R_lt (rz HO109.out))) (Kd.R_lt (rz HO112.out))) (ad_ (bz HB.out))); replace HO103 := Aside0.mk (Kd.bi_ (rz HO103.out) (Kd.bI_ ho10) hb); replace HO106 := Aside0.mk (Kd.bi_ (rz HO106.out) (Kd.bI_ ho10) hb); replace HO109 := Aside0.mk (Kd.bi_ (rz HO109.out) (Kd.bI_ ho10) hb); replace HO112 := Aside0.mk (Kd.bi_ (rz HO112.out) (Kd.bI_ ho10) hb); replace HB := Aside0.mk (ac_ (bz HB.out) hb); clear hb ho10) | ((with_reducible refine aI_ (N := 6) rfl ?_); refine Kd.R_lit (Kd.int .i64) _ 2 ?hg (N := 6) ?hd (xs := ([5, 35, 370] : List Int)) (inner := [.int .i64 5, .int .i64 35, .int .i64 370]) (ok := fun _ => True) (okp := fun _ => True) ?hr ?hp (fun _ hk => hk) trivial (Below.refl _ _) (Nat.le_refl _) (by simp) ?_; (case hd => rfl); (case hg => rfl); (case hr => (go_simp; try rfl)); (case hp => exact (Reps.one (show Kd.M (Kd.int .i64) _ _ _ 5 [.int .i64 5] from rfl) (Reps.one (show Kd.M (Kd.int .i64) _ _ _ 35 [.int .i64 35] from rfl) (Reps.one (show Kd.M (Kd.int .i64) _ _ _ 370 [.int .i64 370] from rfl) (Reps.none _ _))))); intro v117 w11 ho12 hb hg_ hnew_; clear hg_ hnew_; (first | rw [← Ny116.out] at ho12 | (simp only [Int.reduceToNat] at ho12; rw [← Ny116.out] at ho12)); have HO118 := Aside0.mk (Kd.bz_ (Kd.bP_ (Kd.bP_ (Kd.bP_ (Kd.bP_ (Kd.bP_ (Kd.R_newM (M := fun k_ => (w.heap.size ≤ k_)) ho12 (ad_ (bz HB.out)) (fun k_ h_ => h_)) (Kd.R_lt (rz HO103.out))) (Kd.R_lt (rz HO106.out))) (Kd.R_lt (rz HO109.out))) (Kd.R_lt (rz HO112.out))) (Kd.R_lt (rz HO115.out))) (ad_ (bz HB.out))); replace HO103 := Aside0.mk (Kd.bi_ (rz HO103.out) (Kd.bI_ ho12) hb); replace HO106 := Aside0.mk (Kd.bi_ (rz HO106.out) (Kd.bI_ ho12) hb); replace HO109 := Aside0.mk (Kd.bi_ (rz HO109.out) (Kd.bI_ ho12) hb); replace HO112 := Aside0.mk (Kd.bi_ (rz HO112.out) (Kd.bI_ ho12) hb); replace HO115 := Aside0.mk (Kd.bi_ (rz HO115.out) (Kd.bI_ ho12) hb); replace HB := Aside0.mk (ac_ (bz HB.out) hb); clear hb ho12) | ((with_reducible refine aI_ (N := 7) rfl ?_); refine Kd.R_lit (Kd.int .i64) _ 2 ?hg (N := 7) ?hd (xs := ([10, 42, 290] : List Int)) (inner := [.int .i64 10, .int .i64 42, .int .i64 290]) (ok := fun _ => True) (okp := fun _ => True) ?hr ?hp (fun _ hk => hk) trivial (Below.refl _ _) (Nat.le_refl _) (by simp) ?_; (case hd => rfl); (case hg => rfl); (case hr => (go_simp; try rfl)); (case hp => exact (Reps.one (show Kd.M (Kd.int .i64) _ _ _ 10 [.int .i64 10] from rfl) (Reps.one (show Kd.M (Kd.int .i64) _ _ _ 42 [.int .i64 42] from rfl) (Reps.one (show Kd.M (Kd.int .i64) _ _ _ 290 [.int .i64 290] from rfl) (Reps.none _ _))))); intro v120 w13 ho14 hb hg_ hnew_; clear hg_ hnew_; (first | rw [← Ny119.out] at ho14 | (simp only [Int.reduceToNat] at ho14; rw [← Ny119.out] at ho14)); have HO121 := Aside0.mk (Kd.bz_ (Kd.bP_ (Kd.bP_ (Kd.bP_ (Kd.bP_ (Kd.bP_ (Kd.bP_ (Kd.R_newM (M := fun k_ => (w.heap.size ≤ k_)) ho14 (ad_ (bz HB.out)) (fun k_ h_ => h_)) (Kd.R_lt (rz HO103.out))) (Kd.R_lt (rz HO106.out))) (Kd.R_lt (rz HO109.out))) (Kd.R_lt (rz HO112.out))) (Kd.R_lt (rz HO115.out))) (Kd.R_lt (rz HO118.out))) (ad_ (bz HB.out))); replace HO103 := Aside0.mk (Kd.bi_ (rz HO103.out) (Kd.bI_ ho14) hb); replace HO106 := Aside0.mk (Kd.bi_ (rz HO106.out) (Kd.bI_ ho14) hb); replace HO109 := Aside0.mk (Kd.bi_ (rz HO109.out) (Kd.bI_ ho14) hb); replace HO112 := Aside0.mk (Kd.bi_ (rz HO112.out) (Kd.bI_ ho14) hb); replace HO115 := Aside0.mk (Kd.bi_ (rz HO115.out) (Kd.bI_ ho14) hb); replace HO118 := Aside0.mk (Kd.bi_ (rz HO118.out) (Kd.bI_ ho14) hb); replace HB := Aside0.mk (ac_ (bz HB.out) hb); clear hb ho14) | ((with_reducible refine aI_ (N := 8) rfl ?_); refine Kd.R_lit (Kd.int .i64) _ 2 ?hg (N := 8) ?hd (xs := ([40, 40, 330] : List Int)) (inner := [.int .i64 40, .int .i64 40, .int .i64 330]) (ok := fun _ => True) (okp := fun _ => True) ?hr ?hp (fun _ hk => hk) trivial (Below.refl _ _) (Nat.le_refl _) (by simp) ?_; (case hd => rfl); (case hg => rfl); (case hr => (go_simp; try rfl)); (case hp => exact (Reps.one (show Kd.M (Kd.int .i64) _ _ _ 40 [.int .i64 40] from rfl) (Reps.one (show Kd.M (Kd.int .i64) _ _ _ 40 [.int .i64 40] from rfl) (Reps.one (show Kd.M (Kd.int .i64) _ _ _ 330 [.int .i64 330] from rfl) (Reps.none _ _))))); intro v123 w15 ho16 hb hg_ hnew_; clear hg_ hnew_; (first | rw [← Ny122.out] at ho16 | (simp only [Int.reduceToNat] at ho16; rw [← Ny122.out] at ho16)); have HO124 := Aside0.mk (Kd.bz_ (Kd.bP_ (Kd.bP_ (Kd.bP_ (Kd.bP_ (Kd.bP_ (Kd.bP_ (Kd.bP_ (Kd.R_newM (M := fun k_ => (w.heap.size ≤ k_)) ho16 (ad_ (bz HB.out)) (fun k_ h_ => h_)) (Kd.R_lt (rz HO103.out))) (Kd.R_lt (rz HO106.out))) (Kd.R_lt (rz HO109.out))) (Kd.R_lt (rz HO112.out))) (Kd.R_lt (rz HO115.out))) (Kd.R_lt (rz HO118.out))) (Kd.R_lt (rz HO121.out))) (ad_ (bz HB.out))); replace HO103 := Aside0.mk (Kd.bi_ (rz HO103.out) (Kd.bI_ ho16) hb); replace HO106 := Aside0.mk (Kd.bi_ (rz HO106.out) (Kd.bI_ ho16) hb); replace HO109 := Aside0.mk (Kd.bi_ (rz HO109.out) (Kd.bI_ ho16) hb); replace HO112 := Aside0.mk (Kd.bi_ (rz HO112.out) (Kd.bI_ ho16) hb); replace HO115 := Aside0.mk (Kd.bi_ (rz HO115.out) (Kd.bI_ ho16) hb); replace HO118 := Aside0.mk (Kd.bi_ (rz HO118.out) (Kd.bI_ ho16) hb); replace HO121 := Aside0.mk (Kd.bi_ (rz HO121.out) (Kd.bI_ ho16) hb); replace HB := Aside0.mk (ac_ (bz HB.out) hb); clear hb ho16) | ((with_reducible refine aI_ (N := 9) rfl ?_); refine Kd.R_lit (Kd.int .i64) _ 2 ?hg (N := 9) ?hd (xs := ([80, 60, 220] : List Int)) (inner := [.int .i64 80, .int .i64 60, .int .i64 220]) (ok := fun _ => True) (okp := fun _ => True) ?hr ?hp (fun _ hk => hk) trivial (Below.refl _ _) (Nat.le_refl _) (by simp) ?_; (case hd => rfl); (case hg => rfl); (case hr => (go_simp; try rfl)); (case hp => exact (Reps.one (show Kd.M (Kd.int .i64) _ _ _ 80 [.int .i64 80] from rfl) (Reps.one (show Kd.M (Kd.int .i64) _ _ _ 60 [.int .i64 60] from rfl) (Reps.one (show Kd.M (Kd.int .i64) _ _ _ 220 [.int .i64 220] from rfl) (Reps.none _ _))))); intro v126 w17 ho18 hb hg_ hnew_; clear hg_ hnew_; (first | rw [← Ny125.out] at ho18 | (simp only [Int.reduceToNat] at ho18; rw [← Ny125.out] at ho18)); have HO127 := Aside0.mk (Kd.bz_ (Kd.bP_ (Kd.bP_ (Kd.bP_ (Kd.bP_ (Kd.bP_ (Kd.bP_ (Kd.bP_ (Kd.bP_ (Kd.R_newM (M := fun k_ => (w.heap.size ≤ k_)) ho18 (ad_ (bz HB.out)) (fun k_ h_ => h_)) (Kd.R_lt (rz HO103.out))) (Kd.R_lt (rz HO106.out))) (Kd.R_lt (rz HO109.out))) (Kd.R_lt (rz HO112.out))) (Kd.R_lt (rz HO115.out))) (Kd.R_lt (rz HO118.out))) (Kd.R_lt (rz HO121.out))) (Kd.R_lt (rz HO124.out))) (ad_ (bz HB.out))); replace HO103 := Aside0.mk (Kd.bi_ (rz HO103.out) (Kd.bI_ ho18) hb); replace HO106 := Aside0.mk (Kd.bi_ (rz HO106.out) (Kd.bI_ ho18) hb); replace HO109 := Aside0.mk (Kd.bi_ (rz HO109.out) (Kd.bI_ ho18) hb); replace HO112 := Aside0.mk (Kd.bi_ (rz HO112.out) (Kd.bI_ ho18) hb); replace HO115 := Aside0.mk (Kd.bi_ (rz HO115.out) (Kd.bI_ ho18) hb); replace HO118 := Aside0.mk (Kd.bi_ (rz HO118.out) (Kd.bI_ ho18) hb); replace HO121 := Aside0.mk (Kd.bi_ (rz HO121.out) (Kd.bI_ ho18) hb); replace HO124 := Aside0.mk (Kd.bi_ (rz HO124.out) (Kd.bI_ ho18) hb); replace HB := Aside0.mk (ac_ (bz HB.out) hb); clear hb ho18) | ((with_reducible refine aI_ (N := 10) rfl ?_); refine Kd.R_lit (Kd.int .i64) _ 2 ?hg (N := 10) ?hd (xs := ([70, 38, 260] : List Int)) (inner := [.int .i64 70, .int .i64 38, .int .i64 260]) (ok := fun _ => True) (okp := fun _ => True) ?hr ?hp (fun _ hk => hk) trivial (Below.refl _ _) (Nat.le_refl _) (by simp) ?_; (case hd => rfl); (case hg => rfl); (case hr => (go_simp; try rfl)); (case hp => exact (Reps.one (show Kd.M (Kd.int .i64) _ _ _ 70 [.int .i64 70] from rfl) (Reps.one (show Kd.M (Kd.int .i64) _ _ _ 38 [.int .i64 38] from rfl) (Reps.one (show Kd.M (Kd.int .i64) _ _ _ 260 [.int .i64 260] from rfl) (Reps.none _ _))))); intro v129 w19 ho20 hb hg_ hnew_; clear hg_ hnew_; (first | rw [← Ny128.out] at ho20 | (simp only [Int.reduceToNat] at ho20; rw [← Ny128.out] at ho20)); have HO130 := Aside0.mk (Kd.bz_ (Kd.bP_ (Kd.bP_ (Kd.bP_ (Kd.bP_ (Kd.bP_ (Kd.bP_ (Kd.bP_ (Kd.bP_ (Kd.bP_ (Kd.R_newM (M := fun k_ => (w.heap.size ≤ k_)) ho20 (ad_ (bz HB.out)) (fun k_ h_ => h_)) (Kd.R_lt (rz HO103.out))) (Kd.R_lt (rz HO106.out))) (Kd.R_lt (rz HO109.out))) (Kd.R_lt (rz HO112.out))) (Kd.R_lt (rz HO115.out))) (Kd.R_lt (rz HO118.out))) (Kd.R_lt (rz HO121.out))) (Kd.R_lt (rz HO124.out))) (Kd.R_lt (rz HO127.out))) (ad_ (bz HB.out))); replace HO103 := Aside0.mk (Kd.bi_ (rz HO103.out) (Kd.bI_ ho20) hb); replace HO106 := Aside0.mk (Kd.bi_ (rz HO106.out) (Kd.bI_ ho20) hb); replace HO109 := Aside0.mk (Kd.bi_ (rz HO109.out) (Kd.bI_ ho20) hb); replace HO112 := Aside0.mk (Kd.bi_ (rz HO112.out) (Kd.bI_ ho20) hb); replace HO115 := Aside0.mk (Kd.bi_ (rz HO115.out) (Kd.bI_ ho20) hb); replace HO118 := Aside0.mk (Kd.bi_ (rz HO118.out) (Kd.bI_ ho20) hb); replace HO121 := Aside0.mk (Kd.bi_ (rz HO121.out) (Kd.bI_ ho20) hb); replace HO124 := Aside0.mk (Kd.bi_ (rz HO124.out) (Kd.bI_ ho20) hb); replace HO127 := Aside0.mk (Kd.bi_ (rz HO127.out) (Kd.bI_ ho20) hb); replace HB := Aside0.mk (ac_ (bz HB.out) hb); clear hb ho20; obtain ⟨Ao21, co21, eo21⟩ := Kd.bv_ HO103.out; subst eo21; obtain ⟨Ao22, co22, eo22⟩ := Kd.bv_ HO106.out; subst eo22; obtain ⟨Ao23, co23, eo23⟩ := Kd.bv_ HO109.out; subst eo23; obtain ⟨Ao24, co24, eo24⟩ := Kd.bv_ HO112.out; subst eo24; obtain ⟨Ao25, co25, eo25⟩ := Kd.bv_ HO115.out; subst eo25; obtain ⟨Ao26, co26, eo26⟩ := Kd.bv_ HO118.out; subst eo26; obtain ⟨Ao27, co27, eo27⟩ := Kd.bv_ HO121.out; subst eo27; obtain ⟨Ao28, co28, eo28⟩ := Kd.bv_ HO124.out; subst eo28; obtain ⟨Ao29, co29, eo29⟩ := Kd.bv_ HO127.out; subst eo29; obtain ⟨Ao30, co30, eo30⟩ := Kd.bv_ HO130.out; subst eo30) | ((with_reducible refine aI_ (N := 11) rfl ?_); refine Kd.N_lit (Kd.slice 2 (Kd.int .i64)) _ 62 ?hg (N' := 11) ?hd (xs := ([y101, y104, y107, y110, y113, y116, y119, y122, y125, y128] : List (List Int))) (inner := [.slice Ao21 y101.length co21, .slice Ao22 y104.length co22, .slice Ao23 y107.length co23, .slice Ao24 y110.length co24, .slice Ao25 y113.length co25, .slice Ao26 y116.length co26, .slice Ao27 y119.length co27, .slice Ao28 y122.length co28, .slice Ao29 y125.length co29, .slice Ao30 y128.length co30]) (ok := (fun k_ => (w.heap.size ≤ k_))) (okp := (fun k_ => (w.heap.size ≤ k_))) ?hr ?hp (fun _ hk => hk) ((show ∀ k_, w19.heap.size ≤ k_ → (fun k_ => (w.heap.size ≤ k_)) k_ from fun k_ hk => (Nat.le_trans (ad_ (bz HB.out)) hk)) _ (Nat.le_refl _)) (Below.refl _ _) (Nat.le_refl _) (by simp) ?_; (case hd => rfl); (case hg => rfl); (case hr => (go_simp; try rfl)); (case hp => exact (Reps.one (show Kd.FK (Kd.slice 2 (Kd.int .i64)) _ _ y101 [.slice Ao21 y101.length co21] from (Kd.cs_ (Kd.av_ (Kd.bg_ (ok' := (fun k_ => (w.heap.size ≤ k_))) (HO103.out) (fun k_ hk => hk.1.1.1.1.1.1.1.1.1.1))).2.1 (Kd.R_F (Kd.bg_ (ok' := (fun k_ => (w.heap.size ≤ k_))) (HO103.out) (fun k_ hk => hk.1.1.1.1.1.1.1.1.1.1))))) (Reps.one (show Kd.FK (Kd.slice 2 (Kd.int .i64)) _ _ y104 [.slice Ao22 y104.length co22] from (Kd.cs_ (Kd.av_ (Kd.bg_ (ok' := (fun k_ => (w.heap.size ≤ k_))) (HO106.out) (fun k_ hk => hk.1.1.1.1.1.1.1.1.1.1))).2.1 (Kd.R_F (Kd.bg_ (ok' := (fun k_ => (w.heap.size ≤ k_))) (HO106.out) (fun k_ hk => hk.1.1.1.1.1.1.1.1.1.1))))) (Reps.one (show Kd.FK (Kd.slice 2 (Kd.int .i64)) _ _ y107 [.slice Ao23 y107.length co23] from (Kd.cs_ (Kd.av_ (Kd.bg_ (ok' := (fun k_ => (w.heap.size ≤ k_))) (HO109.out) (fun k_ hk => hk.1.1.1.1.1.1.1.1.1.1))).2.1 (Kd.R_F (Kd.bg_ (ok' := (fun k_ => (w.heap.size ≤ k_))) (HO109.out) (fun k_ hk => hk.1.1.1.1.1.1.1.1.1.1))))) (Reps.one (show Kd.FK (Kd.slice 2 (Kd.int .i64)) _ _ y110 [.slice Ao24 y110.length co24] from (Kd.cs_ (Kd.av_ (Kd.bg_ (ok' := (fun k_ => (w.heap.size ≤ k_))) (HO112.out) (fun k_ hk => hk.1.1.1.1.1.1.1.1.1.1))).2.1 (Kd.R_F (Kd.bg_ (ok' := (fun k_ => (w.heap.size ≤ k_))) (HO112.out) (fun k_ hk => hk.1.1.1.1.1.1.1.1.1.1))))) (Reps.one (show Kd.FK (Kd.slice 2 (Kd.int .i64)) _ _ y113 [.slice Ao25 y113.length co25] from (Kd.cs_ (Kd.av_ (Kd.bg_ (ok' := (fun k_ => (w.heap.size ≤ k_))) (HO115.out) (fun k_ hk => hk.1.1.1.1.1.1.1.1.1.1))).2.1 (Kd.R_F (Kd.bg_ (ok' := (fun k_ => (w.heap.size ≤ k_))) (HO115.out) (fun k_ hk => hk.1.1.1.1.1.1.1.1.1.1))))) (Reps.one (show Kd.FK (Kd.slice 2 (Kd.int .i64)) _ _ y116 [.slice Ao26 y116.length co26] from (Kd.cs_ (Kd.av_ (Kd.bg_ (ok' := (fun k_ => (w.heap.size ≤ k_))) (HO118.out) (fun k_ hk => hk.1.1.1.1.1.1.1.1.1.1))).2.1 (Kd.R_F (Kd.bg_ (ok' := (fun k_ => (w.heap.size ≤ k_))) (HO118.out) (fun k_ hk => hk.1.1.1.1.1.1.1.1.1.1))))) (Reps.one (show Kd.FK (Kd.slice 2 (Kd.int .i64)) _ _ y119 [.slice Ao27 y119.length co27] from (Kd.cs_ (Kd.av_ (Kd.bg_ (ok' := (fun k_ => (w.heap.size ≤ k_))) (HO121.out) (fun k_ hk => hk.1.1.1.1.1.1.1.1.1.1))).2.1 (Kd.R_F (Kd.bg_ (ok' := (fun k_ => (w.heap.size ≤ k_))) (HO121.out) (fun k_ hk => hk.1.1.1.1.1.1.1.1.1.1))))) (Reps.one (show Kd.FK (Kd.slice 2 (Kd.int .i64)) _ _ y122 [.slice Ao28 y122.length co28] from (Kd.cs_ (Kd.av_ (Kd.bg_ (ok' := (fun k_ => (w.heap.size ≤ k_))) (HO124.out) (fun k_ hk => hk.1.1.1.1.1.1.1.1.1.1))).2.1 (Kd.R_F (Kd.bg_ (ok' := (fun k_ => (w.heap.size ≤ k_))) (HO124.out) (fun k_ hk => hk.1.1.1.1.1.1.1.1.1.1))))) (Reps.one (show Kd.FK (Kd.slice 2 (Kd.int .i64)) _ _ y125 [.slice Ao29 y125.length co29] from (Kd.cs_ (Kd.av_ (Kd.bg_ (ok' := (fun k_ => (w.heap.size ≤ k_))) (HO127.out) (fun k_ hk => hk.1.1.1.1.1.1.1.1.1.1))).2.1 (Kd.R_F (Kd.bg_ (ok' := (fun k_ => (w.heap.size ≤ k_))) (HO127.out) (fun k_ hk => hk.1.1.1.1.1.1.1.1.1.1))))) (Reps.one (show Kd.FK (Kd.slice 2 (Kd.int .i64)) _ _ y128 [.slice Ao30 y128.length co30] from (Kd.cs_ (Kd.av_ (Kd.bg_ (ok' := (fun k_ => (w.heap.size ≤ k_))) (HO130.out) (fun k_ hk => hk.1.1.1.1.1.1.1.1.1.1))).2.1 (Kd.R_F (Kd.bg_ (ok' := (fun k_ => (w.heap.size ≤ k_))) (HO130.out) (fun k_ hk => hk.1.1.1.1.1.1.1.1.1.1))))) (Reps.none _ _)))))))))))); intro v132 w31 ho32 hb hg_ hnew_; clear hg_ hnew_; (first | rw [← Ny131.out] at ho32 | (simp only [Int.reduceToNat] at ho32; rw [← Ny131.out] at ho32)); have HO133 := Aside0.mk (Kd.N_lower ho32 (ad_ (bz HB.out))); replace HB := Aside0.mk (ac_ (bz HB.out) hb); clear HO103; clear HO106; clear HO109; clear HO112; clear HO115; clear HO118; clear HO121; clear HO124; clear HO127; clear HO130; clear hb ho32))
 go_ret
 exact ⟨_, by first | rfl | (simp [*, ai_, ah_] <;> rfl), nz HO133.out, bz HB.out⟩
def cz_.f (a0 : Int) : Option (Bool) := (ao_.f a0 0 179).bind fun t101 => (some t101)
set_option maxHeartbeats 8000000 in
set_option maxRecDepth 100000 in
theorem cz_.calls (a0 : Int) (r : Bool) (w : World) (h : cz_.f a0 = some r) :
  Calls Tryz.prog 64 #[.int .i64 a0] w fun e w' => e = .returned (.bool r) ∧ ap_ w w' := by
 have H : ((ao_.f a0 0 179).bind fun t101 => (some t101)) = some r := h
 clear h
 replace H := Option.bind_eq_some_iff.mp H
 obtain ⟨t101, A20, H⟩ := H
 (try dsimp only at H)
 have A2 := Aside0.mk A20
 clear A20
 obtain rfl := Option.some.inj H
 go_enter Tryz.func64, Tryz.ntmps64
 go_wp2_with (first | ((with_reducible refine af_ (f := 45) rfl ?_); refine aJ_ (some 4) rfl rfl Tryz.func45 (by kernel_rfl) rfl #[.int .i64 a0, .int .i64 0, .int .i64 179] rfl (by first | rfl | (simp only [lma_, lmc_, lmn_]; first | done | rfl)) ?_; (with_reducible refine (ao_.calls a0 0 179 t101 _ A2.out).mono ?_); rintro e w' ⟨rfl, ⟨nd, rfl⟩⟩; refine ⟨_, rfl, ?_⟩))
 go_ret
 exact ⟨by first | rfl | (simp; done) | (simp [*]; done), by repeat (first | exact ap_.refl _ | apply ap_.step)⟩
def bp_.j0 : Nat → List (S40) → Int → Bool → Option (Bool)
 | 0, _, _, _ => none
 | k + 1, x0, x3, x19 => if x19 = true then (some false) else ((cx_.f).bind fun t105 => (if 0 ≤ x3 then (if x3 < (t105.length : Int) then (if 0 < ((rd_L4 t105 x3).length : Int) then (if 0 < (x0.length : Int) then ((ao_.f ((cL_ x0 0).f1) (wrap64 ((rd (rd_L4 t105 x3) 0) - 15)) (wrap64 ((rd (rd_L4 t105 x3) 0) + 15))).bind fun t111 => (if t111 = true then ((cz_.f ((cL_ x0 0).f2)).bind fun t113 => (some t113)) else (some false))) else (none)) else (none)) else (none)) else (none)))
def bp_.f (k : Nat) (l0 : List (S40)) : Option (Bool) := if 0 < (l0.length : Int) then ((bQ_.f k ((cL_ l0 0).f0)).bind fun t102 => (if t102 < 0 then (bp_.j0 k l0 t102 true) else ((ao_.f ((cL_ l0 0).f1) 0 100).bind fun t104 => (bp_.j0 k l0 t102 (!t104))))) else (none)
set_option maxHeartbeats 8000000 in
set_option maxRecDepth 100000 in
theorem bp_.calls (k : Nat) (A0 : Option Addr) (l0 : List (S40)) (r : Bool) (w : World) (hr0 : Kd.C k40 w A0 l0.length l0) (h : bp_.f k l0 = some r) :
  Calls Tryz.prog 44 #[.pointer A0] w fun e w' => e = .returned (.bool r) ∧ Below w.heap.size w w' := by
 have HR0 := Aside0.mk hr0
 clear hr0
 have HB := Aside0.mk (Below.refl w.heap.size w)
 have H : (if 0 < (l0.length : Int) then ((bQ_.f k ((cL_ l0 0).f0)).bind fun t102 => (if t102 < 0 then (bp_.j0 k l0 t102 true) else ((ao_.f ((cL_ l0 0).f1) 0 100).bind fun t104 => (bp_.j0 k l0 t102 (!t104))))) else (none)) = some r := h
 clear h
 by_cases c2 : 0 < (l0.length : Int)
 rotate_left
 ·rw [if_neg c2] at H
  exact absurd H (by simp)
 rw [if_pos c2] at H
 have c2b0 : decide (0 < (l0.length : Int)) = true := decide_eq_true c2
 have c2b1 : decide (0 < l0.length) = true := decide_eq_true (by omega)
 clear c2
 replace H := Option.bind_eq_some_iff.mp H
 obtain ⟨t102, A30, H⟩ := H
 (try dsimp only at H)
 have A3 := Aside0.mk A30
 clear A30
 have HC4 := Aside0.mk H
 clear H
 have p101 : 0 ≤ (0 : Int) := (by omega)
 have q101 : 0 < (l0.length : Int) := of_decide_eq_true (by assumption)
 obtain ⟨ad101, e101, hx101_0, hx101_1, hx101_2⟩ := at_T40 HR0.out 0 p101 q101
 cases e101
 have qi101 : (0 < l0.length) = True := eq_true (by omega)
 (try simp only [Int.toNat_zero, Nat.zero_mul, Addr.add_zero'] at hx101_0 hx101_1 hx101_2)
 replace p101 := eq_true p101
 replace q101 := eq_true q101
 go_enter Tryz.func44, Tryz.ntmps44
 go_upto_region 2 with (first | ((with_reducible refine af_ (f := 62) rfl ?_); refine aJ_ (some 9) rfl rfl Tryz.func62 (by kernel_rfl) rfl #[.string ((cL_ l0 0).f0)] rfl (by first | rfl | (simp only [lma_, lmc_, lmn_]; first | done | rfl)) ?_; (with_reducible refine (bQ_.calls k ((cL_ l0 0).f0) t102 _ A3.out).mono ?_); rintro e w5 ⟨rfl, hb⟩; refine ⟨_, rfl, ?_⟩; replace HB := Aside0.mk (ac_ (bz HB.out) hb); (try clear hb)))
 (try simp only [Act.put, lsa_, ls0_, ls1_])
 go_cut [19] (fun v19 wc => ∃ (kq : Nat) (x19_3 : Bool), v19 = .bool x19_3 ∧ Aside0 (bp_.j0 kq l0 t102 x19_3 = some r) ∧ Aside0 (kq ≤ k) ∧ Aside0 (Below w.heap.size w wc))
 case first =>
  have H := HC4.out
  clear HC4
  by_cases c6 : t102 < 0
  rotate_left
  ·rw [if_neg c6] at H
   have c6b0 : decide (t102 < 0) = false := decide_eq_false c6
   clear c6
   (first | rw [c6b0] | (simp only [i64_w, i32_w]; rw [c6b0]) | (simp only [c6b1, Bool.not_true, Bool.not_false]) | (simp only [c6b0, Bool.not_true, Bool.not_false]) | skip)
   replace H := Option.bind_eq_some_iff.mp H
   obtain ⟨t104, A70, H⟩ := H
   (try dsimp only at H)
   have A7 := Aside0.mk A70
   clear A70
   have H' := Aside0.mk H
   clear H
   have p103 : 0 ≤ (0 : Int) := (by omega)
   have q103 : 0 < (l0.length : Int) := of_decide_eq_true (by assumption)
   obtain ⟨ad103, e103, hx103_0, hx103_1, hx103_2⟩ := at_T40 HR0.out 0 p103 q103
   obtain rfl : ad101 = ad103 := (by injection e103)
   have qi103 : (0 < l0.length) = True := eq_true (by omega)
   (try simp only [Int.toNat_zero, Nat.zero_mul, Addr.add_zero'] at hx103_0 hx103_1 hx103_2)
   replace hx103_0 := bu_ HB.out hx103_0
   replace hx103_1 := bu_ HB.out hx103_1
   replace hx103_2 := bu_ HB.out hx103_2
   replace p103 := eq_true p103
   replace q103 := eq_true q103
   go_wp2_with (first | (go_at_call 45; (with_reducible refine (ao_.calls ((cL_ l0 0).f1) 0 100 t104 _ A7.out).mono ?_); rintro e w' ⟨rfl, ⟨nd, rfl⟩⟩))
   go_meet
   case rel => exact ⟨_, (!t104), (by first | rfl | (simp; done) | (simp [*]; done)), H', ⟨by first | omega | exact Nat.le_refl _⟩, ⟨bz HB.out⟩⟩
  rw [if_pos c6] at H
  have c6b0 : decide (t102 < 0) = true := decide_eq_true c6
  clear c6
  (first | rw [c6b0] | (simp only [i64_w, i32_w]; rw [c6b0]) | (simp only [c6b1, Bool.not_true, Bool.not_false]) | (simp only [c6b0, Bool.not_true, Bool.not_false]) | skip)
  have H' := Aside0.mk H
  clear H
  go_wp2
  go_meet
  case rel => exact ⟨_, (true), (by first | rfl | (simp; done) | (simp [*]; done)), H', ⟨by first | omega | exact Nat.le_refl _⟩, ⟨bz HB.out⟩⟩
 case rest =>
  clear HC4
  obtain ⟨kq, x19_3, rfl, HA, HJ3, HB⟩ := hcut
  cases kq with
  | zero => exact absurd HA.out (by simp [bp_.j0])
  | succ kj3 =>
   have H := HA.out
   clear HA
   simp only [bp_.j0] at H
   by_cases c8 : x19_3 = true
   rotate_left
   ·replace c8 := Bool.eq_false_iff.mpr c8
    subst c8
    have H1 : ((cx_.f).bind fun t105 => (if 0 ≤ t102 then (if t102 < (t105.length : Int) then (if 0 < ((rd_L4 t105 t102).length : Int) then (if 0 < (l0.length : Int) then ((ao_.f ((cL_ l0 0).f1) (wrap64 ((rd (rd_L4 t105 t102) 0) - 15)) (wrap64 ((rd (rd_L4 t105 t102) 0) + 15))).bind fun t111 => (if t111 = true then ((cz_.f ((cL_ l0 0).f2)).bind fun t113 => (some t113)) else (some false))) else (none)) else (none)) else (none)) else (none))) = some r := by rw [if_neg (show ¬ (false = true) by decide)] at H; exact H
    clear H
    have H := H1
    clear H1
    replace H := Option.bind_eq_some_iff.mp H
    obtain ⟨t105, A90, H⟩ := H
    (try dsimp only at H)
    have A9 := Aside0.mk A90
    clear A90
    by_cases c10 : 0 ≤ t102
    rotate_left
    ·rw [if_neg c10] at H
     exact absurd H (by simp)
    rw [if_pos c10] at H
    have c10b0 : decide (0 ≤ t102) = true := decide_eq_true c10
    clear c10
    by_cases c11 : t102 < (t105.length : Int)
    rotate_left
    ·rw [if_neg c11] at H
     exact absurd H (by simp)
    rw [if_pos c11] at H
    have c11b0 : decide (t102 < (t105.length : Int)) = true := decide_eq_true c11
    clear c11
    by_cases c12 : 0 < ((rd_L4 t105 t102).length : Int)
    rotate_left
    ·rw [if_neg c12] at H
     exact absurd H (by simp)
    rw [if_pos c12] at H
    have c12b0 : decide (0 < ((rd_L4 t105 t102).length : Int)) = true := decide_eq_true c12
    have c12b1 : decide (0 < (rd_L4 t105 t102).length) = true := decide_eq_true (by omega)
    clear c12
    by_cases c13 : 0 < (l0.length : Int)
    rotate_left
    ·rw [if_neg c13] at H
     exact absurd H (by simp)
    rw [if_pos c13] at H
    have c13b0 : decide (0 < (l0.length : Int)) = true := decide_eq_true c13
    have c13b1 : decide (0 < l0.length) = true := decide_eq_true (by omega)
    clear c13
    replace H := Option.bind_eq_some_iff.mp H
    obtain ⟨t111, A140, H⟩ := H
    (try dsimp only at H)
    have A14 := Aside0.mk A140
    clear A140
    by_cases c15 : t111 = true
    rotate_left
    ·replace c15 := Bool.eq_false_iff.mpr c15
     subst c15
     have H1 : (some false) = some r := by rw [if_neg (show ¬ (false = true) by decide)] at H; exact H
     clear H
     have H := H1
     clear H1
     obtain rfl := Option.some.inj H
     go_wp2_with (first | ((with_reducible refine af_ (f := 63) rfl ?_); refine aJ_ (some 20) rfl rfl Tryz.func63 (by kernel_rfl) rfl #[] rfl (by first | rfl | (simp only [lma_, lmc_, lmn_]; first | done | rfl)) ?_; (with_reducible refine (cx_.calls  t105 _ A9.out).mono ?_); rintro e w19 ⟨v106, rfl, ho0, hb⟩; refine ⟨_, rfl, ?_⟩; have HO107 := Aside0.mk (Kd.N_lower (Kd.N_mono (ok' := fun k_ => True) ho0 (fun k_ hk_ => trivial)) (ad_ (bz HB.out))); replace HB := Aside0.mk (ac_ (bz HB.out) hb); (try clear hb); (try clear ho0); obtain ⟨Ao20, co20, eo20⟩ := Kd.N_slice HO107.out; subst eo20; have p108 : 0 ≤ (t102 : Int) := of_decide_eq_true (by assumption); have q108 : t102 < (t105.length : Int) := of_decide_eq_true (by assumption); obtain ⟨ad108, A108_0, c108_0, e108, hx108_0, hl108_0, hi108_0⟩ := at_L4 (Kd.N_reads' HO107.out).2.2 t102 p108 q108; cases e108; obtain ⟨ce108, hce108, hMe108, hcc108⟩ := Kd.N_get HO107.out [] t102 p108 (by first | exact q108 | exact of_decide_eq_true (by assumption) | (have e_ := (Kd.N_reads' HO107.out).1; omega)); obtain ⟨ua108_0, uc108_0, rfl, ul108_0, ge108_0⟩ := Kd.FK_slice_open hMe108; have hv108_0 := hcc108 0 _ rfl; rw [Nat.add_zero, show ((Kd.slice 2 (Kd.int .i64))).sz = 1 from rfl, Nat.mul_one] at hv108_0; replace hv108_0 := Option.some.inj (hv108_0.symm.trans hx108_0); injection hv108_0 with hva_ hvn_ hvc_; rw [hva_] at ge108_0; rw [hvc_] at ul108_0; have HL108_0 := Aside0.mk (show Kd.V (Kd.int .i64) 2 _ w.heap.size _ _ (rd_L4 t105 t102) from Kd.V_mk ul108_0 ge108_0); clear hva_ hvn_ hvc_ ge108_0 ul108_0; clear hcc108 hce108; have HR108_0 := Aside0.mk hi108_0; have HC108_0 := Aside0.mk hl108_0; clear hi108_0 hl108_0; replace p108 := eq_true p108; replace q108 := eq_true q108; have p109 : 0 ≤ (0 : Int) := (by omega); have q109 : 0 < ((rd_L4 t105 t102).length : Int) := of_decide_eq_true (by assumption); obtain ⟨ad109, e109, hx109_0⟩ := Kd.at_int (by repeat (first | (with_reducible exact HR108_0.out) | (with_reducible first | refine Kd.C_alloc ?_ _ | refine Kd.C_drewN ?_ _ | refine Kd.C_drew ?_) | exact HR108_0.out)) 0 p109 q109; cases e109; have qi109 : (0 < (rd_L4 t105 t102).length) = True := eq_true (by omega); (try rw [show ((0 : Int)).toNat = 0 from rfl] at hx109_0); (try rw [Addr.add_zero'] at hx109_0); replace p109 := eq_true p109; replace q109 := eq_true q109; have p110 : 0 ≤ (0 : Int) := (by omega); have q110 : 0 < (l0.length : Int) := of_decide_eq_true (by assumption); obtain ⟨ad110, e110, hx110_0, hx110_1, hx110_2⟩ := at_T40 HR0.out 0 p110 q110; obtain rfl : ad101 = ad110 := (by injection e110); have qi110 : (0 < l0.length) = True := eq_true (by omega); (try simp only [Int.toNat_zero, Nat.zero_mul, Addr.add_zero'] at hx110_0 hx110_1 hx110_2); replace hx110_0 := bu_ HB.out hx110_0; replace hx110_1 := bu_ HB.out hx110_1; replace hx110_2 := bu_ HB.out hx110_2; replace p110 := eq_true p110; replace q110 := eq_true q110) | ((with_reducible refine af_ (f := 45) rfl ?_); refine aJ_ (some 34) rfl rfl Tryz.func45 (by kernel_rfl) rfl #[.int .i64 ((cL_ l0 0).f1), .int .i64 (wrap64 ((rd (rd_L4 t105 t102) 0) - 15)), .int .i64 (wrap64 ((rd (rd_L4 t105 t102) 0) + 15))] rfl (by first | rfl | (simp only [lma_, lmc_, lmn_]; first | done | rfl)) ?_; (with_reducible refine (ao_.calls ((cL_ l0 0).f1) (wrap64 ((rd (rd_L4 t105 t102) 0) - 15)) (wrap64 ((rd (rd_L4 t105 t102) 0) + 15)) false _ A14.out).mono ?_); rintro e w' ⟨rfl, ⟨nd, rfl⟩⟩; refine ⟨_, rfl, ?_⟩))
     go_ret
     exact ⟨by first | rfl | (simp [*, ai_, ah_] <;> rfl), bz HB.out⟩
    subst c15
    have H1 : ((cz_.f ((cL_ l0 0).f2)).bind fun t113 => (some t113)) = some r := by rw [if_pos rfl] at H; exact H
    clear H
    have H := H1
    clear H1
    replace H := Option.bind_eq_some_iff.mp H
    obtain ⟨t113, A160, H⟩ := H
    (try dsimp only at H)
    have A16 := Aside0.mk A160
    clear A160
    obtain rfl := Option.some.inj H
    go_wp2_with (first | ((with_reducible refine af_ (f := 63) rfl ?_); refine aJ_ (some 20) rfl rfl Tryz.func63 (by kernel_rfl) rfl #[] rfl (by first | rfl | (simp only [lma_, lmc_, lmn_]; first | done | rfl)) ?_; (with_reducible refine (cx_.calls  t105 _ A9.out).mono ?_); rintro e w17 ⟨v106, rfl, ho0, hb⟩; refine ⟨_, rfl, ?_⟩; have HO107 := Aside0.mk (Kd.N_lower (Kd.N_mono (ok' := fun k_ => True) ho0 (fun k_ hk_ => trivial)) (ad_ (bz HB.out))); replace HB := Aside0.mk (ac_ (bz HB.out) hb); (try clear hb); (try clear ho0); obtain ⟨Ao18, co18, eo18⟩ := Kd.N_slice HO107.out; subst eo18; have p108 : 0 ≤ (t102 : Int) := of_decide_eq_true (by assumption); have q108 : t102 < (t105.length : Int) := of_decide_eq_true (by assumption); obtain ⟨ad108, A108_0, c108_0, e108, hx108_0, hl108_0, hi108_0⟩ := at_L4 (Kd.N_reads' HO107.out).2.2 t102 p108 q108; cases e108; obtain ⟨ce108, hce108, hMe108, hcc108⟩ := Kd.N_get HO107.out [] t102 p108 (by first | exact q108 | exact of_decide_eq_true (by assumption) | (have e_ := (Kd.N_reads' HO107.out).1; omega)); obtain ⟨ua108_0, uc108_0, rfl, ul108_0, ge108_0⟩ := Kd.FK_slice_open hMe108; have hv108_0 := hcc108 0 _ rfl; rw [Nat.add_zero, show ((Kd.slice 2 (Kd.int .i64))).sz = 1 from rfl, Nat.mul_one] at hv108_0; replace hv108_0 := Option.some.inj (hv108_0.symm.trans hx108_0); injection hv108_0 with hva_ hvn_ hvc_; rw [hva_] at ge108_0; rw [hvc_] at ul108_0; have HL108_0 := Aside0.mk (show Kd.V (Kd.int .i64) 2 _ w.heap.size _ _ (rd_L4 t105 t102) from Kd.V_mk ul108_0 ge108_0); clear hva_ hvn_ hvc_ ge108_0 ul108_0; clear hcc108 hce108; have HR108_0 := Aside0.mk hi108_0; have HC108_0 := Aside0.mk hl108_0; clear hi108_0 hl108_0; replace p108 := eq_true p108; replace q108 := eq_true q108; have p109 : 0 ≤ (0 : Int) := (by omega); have q109 : 0 < ((rd_L4 t105 t102).length : Int) := of_decide_eq_true (by assumption); obtain ⟨ad109, e109, hx109_0⟩ := Kd.at_int (by repeat (first | (with_reducible exact HR108_0.out) | (with_reducible first | refine Kd.C_alloc ?_ _ | refine Kd.C_drewN ?_ _ | refine Kd.C_drew ?_) | exact HR108_0.out)) 0 p109 q109; cases e109; have qi109 : (0 < (rd_L4 t105 t102).length) = True := eq_true (by omega); (try rw [show ((0 : Int)).toNat = 0 from rfl] at hx109_0); (try rw [Addr.add_zero'] at hx109_0); replace p109 := eq_true p109; replace q109 := eq_true q109; have p110 : 0 ≤ (0 : Int) := (by omega); have q110 : 0 < (l0.length : Int) := of_decide_eq_true (by assumption); obtain ⟨ad110, e110, hx110_0, hx110_1, hx110_2⟩ := at_T40 HR0.out 0 p110 q110; obtain rfl : ad101 = ad110 := (by injection e110); have qi110 : (0 < l0.length) = True := eq_true (by omega); (try simp only [Int.toNat_zero, Nat.zero_mul, Addr.add_zero'] at hx110_0 hx110_1 hx110_2); replace hx110_0 := bu_ HB.out hx110_0; replace hx110_1 := bu_ HB.out hx110_1; replace hx110_2 := bu_ HB.out hx110_2; replace p110 := eq_true p110; replace q110 := eq_true q110) | ((with_reducible refine af_ (f := 45) rfl ?_); refine aJ_ (some 34) rfl rfl Tryz.func45 (by kernel_rfl) rfl #[.int .i64 ((cL_ l0 0).f1), .int .i64 (wrap64 ((rd (rd_L4 t105 t102) 0) - 15)), .int .i64 (wrap64 ((rd (rd_L4 t105 t102) 0) + 15))] rfl (by first | rfl | (simp only [lma_, lmc_, lmn_]; first | done | rfl)) ?_; (with_reducible refine (ao_.calls ((cL_ l0 0).f1) (wrap64 ((rd (rd_L4 t105 t102) 0) - 15)) (wrap64 ((rd (rd_L4 t105 t102) 0) + 15)) true _ A14.out).mono ?_); rintro e w' ⟨rfl, ⟨nd, rfl⟩⟩; refine ⟨_, rfl, ?_⟩; have p112 : 0 ≤ (0 : Int) := (by omega); have q112 : 0 < (l0.length : Int) := of_decide_eq_true (by assumption); obtain ⟨ad112, e112, hx112_0, hx112_1, hx112_2⟩ := at_T40 HR0.out 0 p112 q112; obtain rfl : ad101 = ad112 := (by injection e112); have qi112 : (0 < l0.length) = True := eq_true (by omega); (try simp only [Int.toNat_zero, Nat.zero_mul, Addr.add_zero'] at hx112_0 hx112_1 hx112_2); replace hx112_0 := bu_ HB.out hx112_0; replace hx112_1 := bu_ HB.out hx112_1; replace hx112_2 := bu_ HB.out hx112_2; replace p112 := eq_true p112; replace q112 := eq_true q112) | (go_at_call 64; (with_reducible refine (cz_.calls ((cL_ l0 0).f2) t113 _ A16.out).mono ?_); rintro e w' ⟨rfl, ⟨nd, rfl⟩⟩))
    go_ret
    exact ⟨by first | rfl | (simp [*, ai_, ah_] <;> rfl), bz HB.out⟩
   subst c8
   have H1 : (some false) = some r := by rw [if_pos rfl] at H; exact H
   clear H
   have H := H1
   clear H1
   obtain rfl := Option.some.inj H
   go_wp2
   go_ret
   exact ⟨by first | rfl | (simp [*, ai_, ah_] <;> rfl), bz HB.out⟩
def cv_.f (k : Nat) (a0 : ByteArray) : Option (ByteArray × Int × Int × Bool) := (aP_.f k a0 32).bind fun t102 => (if (t102.length : Int) = 3 then (if 1 < (t102.length : Int) then ((aj_.f k (rdOf ByteArray.empty t102 1)).bind fun bt106 => (if 2 < (t102.length : Int) then ((aj_.f k (rdOf ByteArray.empty t102 2)).bind fun bt109 => (if 0 < (t102.length : Int) then (if bt106.2 = true then (if bt109.2 = true then ((bp_.f k [(⟨rdOf ByteArray.empty t102 0, bt106.1, bt109.1⟩ : S40)]).bind fun t113 => (if t113 = true then (some (rdOf ByteArray.empty t102 0, bt106.1, bt109.1, true)) else (some ((⟨#[]⟩ : ByteArray), 0, 0, false)))) else (some ((⟨#[]⟩ : ByteArray), 0, 0, false))) else (some ((⟨#[]⟩ : ByteArray), 0, 0, false))) else (none))) else (none))) else (none)) else (some ((⟨#[]⟩ : ByteArray), 0, 0, false)))
set_option maxHeartbeats 8000000 in
set_option maxRecDepth 100000 in
theorem cv_.calls (k : Nat) (a0 : ByteArray) (r1 : ByteArray) (r2 : Int) (r3 : Int) (r4 : Bool) (w : World) (h : cv_.f k a0 = some (r1, r2, r3, r4)) :
  Calls Tryz.prog 28 #[.string a0] w fun e w' => e = .returned (.tuple #[.agg #[.string r1, .int .i64 r2, .int .i64 r3], .bool r4]) ∧ Below w.heap.size w w' := by
 have hu40 := Tryz.underlying40
 have HB := Aside0.mk (Below.refl w.heap.size w)
 have H : ((aP_.f k a0 32).bind fun t102 => (if (t102.length : Int) = 3 then (if 1 < (t102.length : Int) then ((aj_.f k (rdOf ByteArray.empty t102 1)).bind fun bt106 => (if 2 < (t102.length : Int) then ((aj_.f k (rdOf ByteArray.empty t102 2)).bind fun bt109 => (if 0 < (t102.length : Int) then (if bt106.2 = true then (if bt109.2 = true then ((bp_.f k [(⟨rdOf ByteArray.empty t102 0, bt106.1, bt109.1⟩ : S40)]).bind fun t113 => (if t113 = true then (some (rdOf ByteArray.empty t102 0, bt106.1, bt109.1, true)) else (some ((⟨#[]⟩ : ByteArray), 0, 0, false)))) else (some ((⟨#[]⟩ : ByteArray), 0, 0, false))) else (some ((⟨#[]⟩ : ByteArray), 0, 0, false))) else (none))) else (none))) else (none)) else (some ((⟨#[]⟩ : ByteArray), 0, 0, false)))) = some (r1, r2, r3, r4) := h
 clear h
 replace H := Option.bind_eq_some_iff.mp H
 obtain ⟨t102, A20, H⟩ := H
 (try dsimp only at H)
 have A2 := Aside0.mk A20
 clear A20
 have HC3 := Aside0.mk H
 clear H
 go_enter Tryz.func28, Tryz.ntmps28
 go_upto_if 14 with (first | ((with_reducible refine aI_ (N := 2) rfl ?_); refine aR_ ?hg (N := 2) ?hd (cs := #[.string (⟨#[]⟩ : ByteArray), .int .i64 0, .int .i64 0]) (t := 40) ?hr ?_; (case hd => rfl); (case hg => rfl); (case hr => (go_simp; try rfl)); intro gb101 hg w4 hbox hb; have BK101 := Aside0.mk (hbox); have GW101 := Aside0.mk ((by rw [hg]; exact (ad_ (bz HB.out)) : w.heap.size ≤ gb101)); have GE101 := Aside0.mk ((by rw [hg]; exact (ad_ (bz HB.out)) : w.heap.size ≤ gb101)); replace HB := Aside0.mk (ac_ (bz HB.out) hb); clear hb hbox hg) | ((with_reducible refine af_ (f := 26) rfl ?_); refine aJ_ (some 11) rfl rfl Tryz.func26 (by kernel_rfl) rfl #[.string a0, .int .u8 32] rfl (by first | rfl | (simp only [lma_, lmc_, lmn_]; first | done | rfl)) ?_; (with_reducible refine (aP_.calls k a0 32 t102 _ A2.out).mono ?_); rintro e w5 ⟨v103, rfl, ho0, hb⟩; refine ⟨_, rfl, ?_⟩; have HO104 := Aside0.mk (Kd.bz_ ho0 (ad_ (by repeat (first | (with_reducible first | exact HB.out | apply bA_ | apply bN_ | apply bD_ | refine aa_ ?_ GE101.out))))); replace BK101 := Aside0.mk (an_ (kz BK101.out) hb); replace HB := Aside0.mk (ac_ (by repeat (first | (with_reducible first | exact HB.out | apply bA_ | apply bN_ | apply bD_ | refine aa_ ?_ GE101.out))) hb); (try clear hb); (try clear ho0); obtain ⟨Ao6, co6, eo6⟩ := Kd.bv_ HO104.out; subst eo6))
 (try simp only [Act.put, lsa_, ls0_, ls1_])
 have H := HC3.out
 clear HC3
 by_cases c7 : (t102.length : Int) = 3
 rotate_left
 ·rw [if_neg c7] at H
  have c7b0 : ((t102.length : Int) == 3) = false := beq_eq_false_iff_ne.mpr c7
  have c7b1 : ((t102.length : Int) != 3) = true := bne_iff_ne.mpr c7
  (first | rw [c7b0] | (simp only [i64_w, i32_w]; rw [c7b0]) | (simp only [c7b1, Bool.not_true, Bool.not_false]) | (simp only [c7b0, Bool.not_true, Bool.not_false]) | skip)
  simp only [Option.some.injEq, Prod.mk.injEq] at H
  obtain ⟨rfl, rfl, rfl, rfl⟩ := H
  obtain ⟨hcz35_0, hcz35_1, hcz35_2⟩ := cz3_ BK101.out
  obtain ⟨hfz35_0, hfz35_1, hfz35_2⟩ := fz3_ BK101.out
  go_wp2
  refine bodyPost_ret (bB_ rfl _ _ gb101 40 #[.string (⟨#[]⟩ : ByteArray), .int .i64 0, .int .i64 0] (0, 0) _ rfl (by exact kj3_2 (kj3_1 (kj3_0 (kz BK101.out)))) Tryz.underlying40 rfl (by kernel_rfl)) rfl ?_
  exact ⟨by first | rfl | (simp [*, ai_, ah_] <;> rfl), by repeat (first | (with_reducible first | exact HB.out | apply bA_ | apply bN_ | apply bD_ | refine aa_ ?_ GE101.out))⟩
 rw [if_pos c7] at H
 have c7b0 : ((t102.length : Int) == 3) = true := beq_iff_eq.mpr c7
 have c7b1 : ((t102.length : Int) != 3) = false := bne_eq_false_iff_eq.mpr c7
 clear c7
 (first | rw [c7b0] | (simp only [i64_w, i32_w]; rw [c7b0]) | (simp only [c7b1, Bool.not_true, Bool.not_false]) | (simp only [c7b0, Bool.not_true, Bool.not_false]) | skip)
 by_cases c8 : 1 < (t102.length : Int)
 rotate_left
 ·rw [if_neg c8] at H
  exact absurd H (by simp)
 rw [if_pos c8] at H
 have c8b0 : decide (1 < (t102.length : Int)) = true := decide_eq_true c8
 have c8b1 : decide (1 < t102.length) = true := decide_eq_true (by omega)
 clear c8
 replace H := Option.bind_eq_some_iff.mp H
 obtain ⟨⟨t106, t107⟩, A90, H⟩ := H
 (try dsimp only at H)
 have A9 := Aside0.mk A90
 clear A90
 by_cases c10 : 2 < (t102.length : Int)
 rotate_left
 ·rw [if_neg c10] at H
  exact absurd H (by simp)
 rw [if_pos c10] at H
 have c10b0 : decide (2 < (t102.length : Int)) = true := decide_eq_true c10
 have c10b1 : decide (2 < t102.length) = true := decide_eq_true (by omega)
 clear c10
 replace H := Option.bind_eq_some_iff.mp H
 obtain ⟨⟨t109, t110⟩, A110, H⟩ := H
 (try dsimp only at H)
 have A11 := Aside0.mk A110
 clear A110
 by_cases c12 : 0 < (t102.length : Int)
 rotate_left
 ·rw [if_neg c12] at H
  exact absurd H (by simp)
 rw [if_pos c12] at H
 have c12b0 : decide (0 < (t102.length : Int)) = true := decide_eq_true c12
 have c12b1 : decide (0 < t102.length) = true := decide_eq_true (by omega)
 clear c12
 by_cases c13 : t107 = true
 rotate_left
 ·replace c13 := Bool.eq_false_iff.mpr c13
  subst c13
  have H1 : (some ((⟨#[]⟩ : ByteArray), 0, 0, false)) = some (r1, r2, r3, r4) := by rw [if_neg (show ¬ (false = true) by decide)] at H; exact H
  clear H
  have H := H1
  clear H1
  simp only [Option.some.injEq, Prod.mk.injEq] at H
  obtain ⟨rfl, rfl, rfl, rfl⟩ := H
  have p105 : 0 ≤ (1 : Int) := (by omega)
  have q105 : 1 < (t102.length : Int) := of_decide_eq_true (by assumption)
  obtain ⟨ad105, e105, hx105_0⟩ := Kd.bf_ (Kd.av_ HO104.out).2.2 1 p105 q105
  cases e105
  (try simp only [show (1 : Int).toNat = 1 from rfl, Nat.reduceMul, Nat.reduceEqDiff, Go.Addr.add, ↓reduceIte] at hx105_0)
  have qi105 : (1 < t102.length) = True := eq_true (by omega)
  (try rw [show ((1 : Int)).toNat = 1 from rfl] at hx105_0)
  replace p105 := eq_true p105
  replace q105 := eq_true q105
  go_wp2_with (first | ((with_reducible refine af_ (f := 27) rfl ?_); refine aJ_ (some 20) rfl rfl Tryz.func27 (by kernel_rfl) rfl #[.string (rdOf ByteArray.empty t102 1)] rfl (by first | rfl | (simp only [lma_, lmc_, lmn_]; first | done | rfl)) ?_; (with_reducible refine (aj_.calls k (rdOf ByteArray.empty t102 1) t106 false _ A9.out).mono ?_); rintro e w' ⟨rfl, ⟨nd, rfl⟩⟩; refine ⟨_, rfl, ?_⟩; (try (rw [bm_ w5]; generalize hq_ : World.drewN w5 _ = w5; replace HO104 := Aside0.mk (rqR hq_ HO104.out); replace BK101 := Aside0.mk (rqB hq_ BK101.out); replace HB := Aside0.mk (rqH hq_ HB.out); clear hq_)); have p108 : 0 ≤ (2 : Int) := (by omega); have q108 : 2 < (t102.length : Int) := of_decide_eq_true (by assumption); obtain ⟨ad108, e108, hx108_0⟩ := Kd.bf_ (Kd.av_ HO104.out).2.2 2 p108 q108; obtain rfl : ad105 = ad108 := (by injection e108); (try simp only [show (2 : Int).toNat = 2 from rfl, Nat.reduceMul, Nat.reduceEqDiff, Go.Addr.add, ↓reduceIte] at hx108_0); have qi108 : (2 < t102.length) = True := eq_true (by omega); (try rw [show ((2 : Int)).toNat = 2 from rfl] at hx108_0); replace p108 := eq_true p108; replace q108 := eq_true q108) | ((with_reducible refine af_ (f := 27) rfl ?_); refine aJ_ (some 27) rfl rfl Tryz.func27 (by kernel_rfl) rfl #[.string (rdOf ByteArray.empty t102 2)] rfl (by first | rfl | (simp only [lma_, lmc_, lmn_]; first | done | rfl)) ?_; (with_reducible refine (aj_.calls k (rdOf ByteArray.empty t102 2) t109 t110 _ A11.out).mono ?_); rintro e w' ⟨rfl, ⟨nd, rfl⟩⟩; refine ⟨_, rfl, ?_⟩; (try (rw [bm_ w5]; generalize hq_ : World.drewN w5 _ = w5; replace HO104 := Aside0.mk (rqR hq_ HO104.out); replace BK101 := Aside0.mk (rqB hq_ BK101.out); replace HB := Aside0.mk (rqH hq_ HB.out); clear hq_)); have p111 : 0 ≤ (0 : Int) := (by omega); have q111 : 0 < (t102.length : Int) := of_decide_eq_true (by assumption); obtain ⟨ad111, e111, hx111_0⟩ := Kd.bf_ (Kd.av_ HO104.out).2.2 0 p111 q111; obtain rfl : ad105 = ad111 := (by injection e111); have qi111 : (0 < t102.length) = True := eq_true (by omega); (try rw [show ((0 : Int)).toNat = 0 from rfl] at hx111_0); (try rw [Addr.add_zero'] at hx111_0); replace p111 := eq_true p111; replace q111 := eq_true q111) | ((with_reducible refine aI_ (N := 9) rfl ?_); refine aR_ ?hg (N := 9) ?hd (cs := #[.string (⟨#[]⟩ : ByteArray), .int .i64 0, .int .i64 0]) (t := 40) ?hr ?_; (case hd => rfl); (case hg => rfl); (case hr => (go_simp; try rfl)); intro gb112 hg w31 hbox hb; replace HO104 := Aside0.mk (Kd.aV_ (rz HO104.out) hb); have BK112 := Aside0.mk (hbox); have GW112 := Aside0.mk ((by rw [hg]; exact (ad_ (by repeat (first | (with_reducible first | exact HB.out | apply bA_ | apply bN_ | apply bD_ | refine aa_ ?_ GE101.out)))) : w.heap.size ≤ gb112)); have GE112 := Aside0.mk ((by rw [hg]; exact (ad_ (by repeat (first | (with_reducible first | exact HB.out | apply bA_ | apply bN_ | apply bD_ | refine aa_ ?_ GE101.out)))) : w.heap.size ≤ gb112)); replace HB := Aside0.mk (ac_ (by repeat (first | (with_reducible first | exact HB.out | apply bA_ | apply bN_ | apply bD_ | refine aa_ ?_ GE101.out))) hb); have NB101_112 := Aside0.mk ((by rw [hg]; exact Nat.ne_of_lt (bF_ (kz BK101.out)) : gb101 ≠ gb112)); have NB112_101 := Aside0.mk ((by rw [hg]; exact Nat.ne_of_gt (bF_ (kz BK101.out)) : gb112 ≠ gb101)); replace BK101 := Aside0.mk (an_ (kz BK101.out) hb); clear hb hbox hg; have hnb32 := NB112_101.out; have hnc32 := NB101_112.out; obtain ⟨hcz33_0, hcz33_1, hcz33_2⟩ := cz3_ BK112.out; obtain ⟨hfz33_0, hfz33_1, hfz33_2⟩ := fz3_ BK112.out; obtain ⟨hcz34_0, hcz34_1, hcz34_2⟩ := cz3_ BK101.out; obtain ⟨hfz34_0, hfz34_1, hfz34_2⟩ := fz3_ BK101.out))
  refine bodyPost_ret (bB_ rfl _ _ gb101 40 #[.string (⟨#[]⟩ : ByteArray), .int .i64 0, .int .i64 0] (0, 0) _ rfl (by exact kj3_2 (kj3_1 (kj3_0 (kf (kf (kf (kz BK101.out) NB101_112.out) NB101_112.out) NB101_112.out)))) Tryz.underlying40 rfl (by kernel_rfl)) rfl ?_
  exact ⟨by first | rfl | (simp [*, ai_, ah_] <;> rfl), by repeat (first | (with_reducible first | exact HB.out | apply bA_ | apply bN_ | apply bD_ | refine aa_ ?_ GE101.out | refine aa_ ?_ GE112.out))⟩
 subst c13
 have H1 : (if t110 = true then ((bp_.f k [(⟨rdOf ByteArray.empty t102 0, t106, t109⟩ : S40)]).bind fun t113 => (if t113 = true then (some (rdOf ByteArray.empty t102 0, t106, t109, true)) else (some ((⟨#[]⟩ : ByteArray), 0, 0, false)))) else (some ((⟨#[]⟩ : ByteArray), 0, 0, false))) = some (r1, r2, r3, r4) := by rw [if_pos rfl] at H; exact H
 clear H
 have H := H1
 clear H1
 by_cases c14 : t110 = true
 rotate_left
 ·replace c14 := Bool.eq_false_iff.mpr c14
  subst c14
  have H1 : (some ((⟨#[]⟩ : ByteArray), 0, 0, false)) = some (r1, r2, r3, r4) := by rw [if_neg (show ¬ (false = true) by decide)] at H; exact H
  clear H
  have H := H1
  clear H1
  simp only [Option.some.injEq, Prod.mk.injEq] at H
  obtain ⟨rfl, rfl, rfl, rfl⟩ := H
  have p105 : 0 ≤ (1 : Int) := (by omega)
  have q105 : 1 < (t102.length : Int) := of_decide_eq_true (by assumption)
  obtain ⟨ad105, e105, hx105_0⟩ := Kd.bf_ (Kd.av_ HO104.out).2.2 1 p105 q105
  cases e105
  (try simp only [show (1 : Int).toNat = 1 from rfl, Nat.reduceMul, Nat.reduceEqDiff, Go.Addr.add, ↓reduceIte] at hx105_0)
  have qi105 : (1 < t102.length) = True := eq_true (by omega)
  (try rw [show ((1 : Int)).toNat = 1 from rfl] at hx105_0)
  replace p105 := eq_true p105
  replace q105 := eq_true q105
  go_wp2_with (first | ((with_reducible refine af_ (f := 27) rfl ?_); refine aJ_ (some 20) rfl rfl Tryz.func27 (by kernel_rfl) rfl #[.string (rdOf ByteArray.empty t102 1)] rfl (by first | rfl | (simp only [lma_, lmc_, lmn_]; first | done | rfl)) ?_; (with_reducible refine (aj_.calls k (rdOf ByteArray.empty t102 1) t106 true _ A9.out).mono ?_); rintro e w' ⟨rfl, ⟨nd, rfl⟩⟩; refine ⟨_, rfl, ?_⟩; (try (rw [bm_ w5]; generalize hq_ : World.drewN w5 _ = w5; replace HO104 := Aside0.mk (rqR hq_ HO104.out); replace BK101 := Aside0.mk (rqB hq_ BK101.out); replace HB := Aside0.mk (rqH hq_ HB.out); clear hq_)); have p108 : 0 ≤ (2 : Int) := (by omega); have q108 : 2 < (t102.length : Int) := of_decide_eq_true (by assumption); obtain ⟨ad108, e108, hx108_0⟩ := Kd.bf_ (Kd.av_ HO104.out).2.2 2 p108 q108; obtain rfl : ad105 = ad108 := (by injection e108); (try simp only [show (2 : Int).toNat = 2 from rfl, Nat.reduceMul, Nat.reduceEqDiff, Go.Addr.add, ↓reduceIte] at hx108_0); have qi108 : (2 < t102.length) = True := eq_true (by omega); (try rw [show ((2 : Int)).toNat = 2 from rfl] at hx108_0); replace p108 := eq_true p108; replace q108 := eq_true q108) | ((with_reducible refine af_ (f := 27) rfl ?_); refine aJ_ (some 27) rfl rfl Tryz.func27 (by kernel_rfl) rfl #[.string (rdOf ByteArray.empty t102 2)] rfl (by first | rfl | (simp only [lma_, lmc_, lmn_]; first | done | rfl)) ?_; (with_reducible refine (aj_.calls k (rdOf ByteArray.empty t102 2) t109 false _ A11.out).mono ?_); rintro e w' ⟨rfl, ⟨nd, rfl⟩⟩; refine ⟨_, rfl, ?_⟩; (try (rw [bm_ w5]; generalize hq_ : World.drewN w5 _ = w5; replace HO104 := Aside0.mk (rqR hq_ HO104.out); replace BK101 := Aside0.mk (rqB hq_ BK101.out); replace HB := Aside0.mk (rqH hq_ HB.out); clear hq_)); have p111 : 0 ≤ (0 : Int) := (by omega); have q111 : 0 < (t102.length : Int) := of_decide_eq_true (by assumption); obtain ⟨ad111, e111, hx111_0⟩ := Kd.bf_ (Kd.av_ HO104.out).2.2 0 p111 q111; obtain rfl : ad105 = ad111 := (by injection e111); have qi111 : (0 < t102.length) = True := eq_true (by omega); (try rw [show ((0 : Int)).toNat = 0 from rfl] at hx111_0); (try rw [Addr.add_zero'] at hx111_0); replace p111 := eq_true p111; replace q111 := eq_true q111) | ((with_reducible refine aI_ (N := 9) rfl ?_); refine aR_ ?hg (N := 9) ?hd (cs := #[.string (⟨#[]⟩ : ByteArray), .int .i64 0, .int .i64 0]) (t := 40) ?hr ?_; (case hd => rfl); (case hg => rfl); (case hr => (go_simp; try rfl)); intro gb112 hg w27 hbox hb; replace HO104 := Aside0.mk (Kd.aV_ (rz HO104.out) hb); have BK112 := Aside0.mk (hbox); have GW112 := Aside0.mk ((by rw [hg]; exact (ad_ (by repeat (first | (with_reducible first | exact HB.out | apply bA_ | apply bN_ | apply bD_ | refine aa_ ?_ GE101.out)))) : w.heap.size ≤ gb112)); have GE112 := Aside0.mk ((by rw [hg]; exact (ad_ (by repeat (first | (with_reducible first | exact HB.out | apply bA_ | apply bN_ | apply bD_ | refine aa_ ?_ GE101.out)))) : w.heap.size ≤ gb112)); replace HB := Aside0.mk (ac_ (by repeat (first | (with_reducible first | exact HB.out | apply bA_ | apply bN_ | apply bD_ | refine aa_ ?_ GE101.out))) hb); have NB101_112 := Aside0.mk ((by rw [hg]; exact Nat.ne_of_lt (bF_ (kz BK101.out)) : gb101 ≠ gb112)); have NB112_101 := Aside0.mk ((by rw [hg]; exact Nat.ne_of_gt (bF_ (kz BK101.out)) : gb112 ≠ gb101)); replace BK101 := Aside0.mk (an_ (kz BK101.out) hb); clear hb hbox hg; have hnb28 := NB112_101.out; have hnc28 := NB101_112.out; obtain ⟨hcz29_0, hcz29_1, hcz29_2⟩ := cz3_ BK112.out; obtain ⟨hfz29_0, hfz29_1, hfz29_2⟩ := fz3_ BK112.out; obtain ⟨hcz30_0, hcz30_1, hcz30_2⟩ := cz3_ BK101.out; obtain ⟨hfz30_0, hfz30_1, hfz30_2⟩ := fz3_ BK101.out))
  refine bodyPost_ret (bB_ rfl _ _ gb101 40 #[.string (⟨#[]⟩ : ByteArray), .int .i64 0, .int .i64 0] (0, 0) _ rfl (by exact kj3_2 (kj3_1 (kj3_0 (kf (kf (kf (kz BK101.out) NB101_112.out) NB101_112.out) NB101_112.out)))) Tryz.underlying40 rfl (by kernel_rfl)) rfl ?_
  exact ⟨by first | rfl | (simp [*, ai_, ah_] <;> rfl), by repeat (first | (with_reducible first | exact HB.out | apply bA_ | apply bN_ | apply bD_ | refine aa_ ?_ GE101.out | refine aa_ ?_ GE112.out))⟩
 subst c14
 have H1 : ((bp_.f k [(⟨rdOf ByteArray.empty t102 0, t106, t109⟩ : S40)]).bind fun t113 => (if t113 = true then (some (rdOf ByteArray.empty t102 0, t106, t109, true)) else (some ((⟨#[]⟩ : ByteArray), 0, 0, false)))) = some (r1, r2, r3, r4) := by rw [if_pos rfl] at H; exact H
 clear H
 have H := H1
 clear H1
 replace H := Option.bind_eq_some_iff.mp H
 obtain ⟨t113, A150, H⟩ := H
 (try dsimp only at H)
 have A15 := Aside0.mk A150
 clear A150
 have HC16 := Aside0.mk H
 clear H
 have p105 : 0 ≤ (1 : Int) := (by omega)
 have q105 : 1 < (t102.length : Int) := of_decide_eq_true (by assumption)
 obtain ⟨ad105, e105, hx105_0⟩ := Kd.bf_ (Kd.av_ HO104.out).2.2 1 p105 q105
 cases e105
 (try simp only [show (1 : Int).toNat = 1 from rfl, Nat.reduceMul, Nat.reduceEqDiff, Go.Addr.add, ↓reduceIte] at hx105_0)
 have qi105 : (1 < t102.length) = True := eq_true (by omega)
 (try rw [show ((1 : Int)).toNat = 1 from rfl] at hx105_0)
 replace p105 := eq_true p105
 replace q105 := eq_true q105
 go_upto_if 45 with (first | ((with_reducible refine af_ (f := 27) rfl ?_); refine aJ_ (some 20) rfl rfl Tryz.func27 (by kernel_rfl) rfl #[.string (rdOf ByteArray.empty t102 1)] rfl (by first | rfl | (simp only [lma_, lmc_, lmn_]; first | done | rfl)) ?_; (with_reducible refine (aj_.calls k (rdOf ByteArray.empty t102 1) t106 true _ A9.out).mono ?_); rintro e w' ⟨rfl, ⟨nd, rfl⟩⟩; refine ⟨_, rfl, ?_⟩; (try (rw [bm_ w5]; generalize hq_ : World.drewN w5 _ = w5; replace HO104 := Aside0.mk (rqR hq_ HO104.out); replace BK101 := Aside0.mk (rqB hq_ BK101.out); replace HB := Aside0.mk (rqH hq_ HB.out); clear hq_)); have p108 : 0 ≤ (2 : Int) := (by omega); have q108 : 2 < (t102.length : Int) := of_decide_eq_true (by assumption); obtain ⟨ad108, e108, hx108_0⟩ := Kd.bf_ (Kd.av_ HO104.out).2.2 2 p108 q108; obtain rfl : ad105 = ad108 := (by injection e108); (try simp only [show (2 : Int).toNat = 2 from rfl, Nat.reduceMul, Nat.reduceEqDiff, Go.Addr.add, ↓reduceIte] at hx108_0); have qi108 : (2 < t102.length) = True := eq_true (by omega); (try rw [show ((2 : Int)).toNat = 2 from rfl] at hx108_0); replace p108 := eq_true p108; replace q108 := eq_true q108) | ((with_reducible refine af_ (f := 27) rfl ?_); refine aJ_ (some 27) rfl rfl Tryz.func27 (by kernel_rfl) rfl #[.string (rdOf ByteArray.empty t102 2)] rfl (by first | rfl | (simp only [lma_, lmc_, lmn_]; first | done | rfl)) ?_; (with_reducible refine (aj_.calls k (rdOf ByteArray.empty t102 2) t109 true _ A11.out).mono ?_); rintro e w' ⟨rfl, ⟨nd, rfl⟩⟩; refine ⟨_, rfl, ?_⟩; (try (rw [bm_ w5]; generalize hq_ : World.drewN w5 _ = w5; replace HO104 := Aside0.mk (rqR hq_ HO104.out); replace BK101 := Aside0.mk (rqB hq_ BK101.out); replace HB := Aside0.mk (rqH hq_ HB.out); clear hq_)); have p111 : 0 ≤ (0 : Int) := (by omega); have q111 : 0 < (t102.length : Int) := of_decide_eq_true (by assumption); obtain ⟨ad111, e111, hx111_0⟩ := Kd.bf_ (Kd.av_ HO104.out).2.2 0 p111 q111; obtain rfl : ad105 = ad111 := (by injection e111); have qi111 : (0 < t102.length) = True := eq_true (by omega); (try rw [show ((0 : Int)).toNat = 0 from rfl] at hx111_0); (try rw [Addr.add_zero'] at hx111_0); replace p111 := eq_true p111; replace q111 := eq_true q111) | ((with_reducible refine aI_ (N := 9) rfl ?_); refine aR_ ?hg (N := 9) ?hd (cs := #[.string (⟨#[]⟩ : ByteArray), .int .i64 0, .int .i64 0]) (t := 40) ?hr ?_; (case hd => rfl); (case hg => rfl); (case hr => (go_simp; try rfl)); intro gb112 hg w17 hbox hb; replace HO104 := Aside0.mk (Kd.aV_ (rz HO104.out) hb); have BK112 := Aside0.mk (hbox); have GW112 := Aside0.mk ((by rw [hg]; exact (ad_ (by repeat (first | (with_reducible first | exact HB.out | apply bA_ | apply bN_ | apply bD_ | refine aa_ ?_ GE101.out)))) : w.heap.size ≤ gb112)); have GE112 := Aside0.mk ((by rw [hg]; exact (ad_ (by repeat (first | (with_reducible first | exact HB.out | apply bA_ | apply bN_ | apply bD_ | refine aa_ ?_ GE101.out)))) : w.heap.size ≤ gb112)); replace HB := Aside0.mk (ac_ (by repeat (first | (with_reducible first | exact HB.out | apply bA_ | apply bN_ | apply bD_ | refine aa_ ?_ GE101.out))) hb); have NB101_112 := Aside0.mk ((by rw [hg]; exact Nat.ne_of_lt (bF_ (kz BK101.out)) : gb101 ≠ gb112)); have NB112_101 := Aside0.mk ((by rw [hg]; exact Nat.ne_of_gt (bF_ (kz BK101.out)) : gb112 ≠ gb101)); replace BK101 := Aside0.mk (an_ (kz BK101.out) hb); clear hb hbox hg; have hnb18 := NB112_101.out; have hnc18 := NB101_112.out; obtain ⟨hcz19_0, hcz19_1, hcz19_2⟩ := cz3_ BK112.out; obtain ⟨hfz19_0, hfz19_1, hfz19_2⟩ := fz3_ BK112.out) | (go_at_call 44; (with_reducible refine (bp_.calls k _ [(⟨rdOf ByteArray.empty t102 0, t106, t109⟩ : S40)] t113 _ ?side1 A15.out).mono ?_); (case side1 => exact (RPW.C_blk (cs := [.string (rdOf ByteArray.empty t102 0), .int .i64 t106, .int .i64 t109]) (t := 40) (g := gb112) (by exact kj3_2 (kj3_1 (kj3_0 (kz BK112.out)))) (k40_mk _ (⟨rdOf ByteArray.empty t102 0, t106, t109⟩ : S40)))); rintro e w20 ⟨rfl, hb⟩; replace HO104 := Aside0.mk (Kd.aV_ (rz (Kd.bg_ (Kd.R_far (p := ⟨gb112, 2, none⟩) (Kd.R_far (p := ⟨gb112, 1, none⟩) (Kd.R_far (p := ⟨gb112, 0, none⟩) (Kd.bW_ HO104.out BK112.out (by decide)) (fun _ hk => hk.2) (.string (rdOf ByteArray.empty t102 0))) (fun _ hk => hk.2) (.int .i64 t106)) (fun _ hk => hk.2) (.int .i64 t109)) (fun _ h_ => h_.1))) hb); replace BK101 := Aside0.mk (an_ (g := gb101) (o := .cells #[.string (⟨#[]⟩ : ByteArray), .int .i64 0, .int .i64 0] 40 (0, 0)) (by exact kf (kf (kf (kz BK101.out) NB101_112.out) NB101_112.out) NB101_112.out) hb); replace BK112 := Aside0.mk (an_ (g := gb112) (o := .cells #[.string (rdOf ByteArray.empty t102 0), .int .i64 t106, .int .i64 t109] 40 (0, 0)) (by exact kj3_2 (kj3_1 (kj3_0 (kz BK112.out)))) hb); replace HB := Aside0.mk (ac_ (by repeat (first | (with_reducible first | exact HB.out | apply bA_ | apply bN_ | apply bD_ | refine aa_ ?_ GE101.out | refine aa_ ?_ GE112.out))) hb); (try clear hb)))
 (try simp only [Act.put, lsa_, ls0_, ls1_])
 have H := HC16.out
 clear HC16
 by_cases c21 : t113 = true
 rotate_left
 ·replace c21 := Bool.eq_false_iff.mpr c21
  subst c21
  have H1 : (some ((⟨#[]⟩ : ByteArray), 0, 0, false)) = some (r1, r2, r3, r4) := by rw [if_neg (show ¬ (false = true) by decide)] at H; exact H
  clear H
  have H := H1
  clear H1
  simp only [Option.some.injEq, Prod.mk.injEq] at H
  obtain ⟨rfl, rfl, rfl, rfl⟩ := H
  have hnb25 := NB101_112.out
  have hnc25 := NB112_101.out
  obtain ⟨hcz26_0, hcz26_1, hcz26_2⟩ := cz3_ BK101.out
  obtain ⟨hfz26_0, hfz26_1, hfz26_2⟩ := fz3_ BK101.out
  go_wp2
  refine bodyPost_ret (bB_ rfl _ _ gb101 40 #[.string (⟨#[]⟩ : ByteArray), .int .i64 0, .int .i64 0] (0, 0) _ rfl (by exact kj3_2 (kj3_1 (kj3_0 (kz BK101.out)))) Tryz.underlying40 rfl (by kernel_rfl)) rfl ?_
  exact ⟨by first | rfl | (simp [*, ai_, ah_] <;> rfl), by repeat (first | (with_reducible first | exact HB.out | apply bA_ | apply bN_ | apply bD_ | refine aa_ ?_ GE101.out | refine aa_ ?_ GE112.out))⟩
 subst c21
 have H1 : (some (rdOf ByteArray.empty t102 0, t106, t109, true)) = some (r1, r2, r3, r4) := by rw [if_pos rfl] at H; exact H
 clear H
 have H := H1
 clear H1
 simp only [Option.some.injEq, Prod.mk.injEq] at H
 obtain ⟨rfl, rfl, rfl, rfl⟩ := H
 have hnb22 := NB112_101.out
 have hnc22 := NB101_112.out
 obtain ⟨hcz23_0, hcz23_1, hcz23_2⟩ := cz3_ BK112.out
 obtain ⟨hfz23_0, hfz23_1, hfz23_2⟩ := fz3_ BK112.out
 obtain ⟨hcz24_0, hcz24_1, hcz24_2⟩ := cz3_ BK101.out
 obtain ⟨hfz24_0, hfz24_1, hfz24_2⟩ := fz3_ BK101.out
 go_wp2
 refine bodyPost_ret (bB_ rfl _ _ gb101 40 #[.string (rdOf ByteArray.empty t102 0), .int .i64 t106, .int .i64 t109] (0, 0) _ rfl (by exact kj3_2 (kj3_1 (kj3_0 (kz BK101.out)))) Tryz.underlying40 rfl (by kernel_rfl)) rfl ?_
 exact ⟨by first | rfl | (simp [*, ai_, ah_] <;> rfl), by repeat (first | (with_reducible first | exact HB.out | apply bA_ | apply bN_ | apply bD_ | refine aa_ ?_ GE101.out | refine aa_ ?_ GE112.out))⟩
def cc_.f (k : Nat) (a0 : ByteArray) : Option (Int × Int × Bool) := (aP_.f k a0 120).bind fun t101 => (if (t101.length : Int) = 2 then (if 0 < (t101.length : Int) then ((aj_.f k (rdOf ByteArray.empty t101 0)).bind fun bt105 => (if 1 < (t101.length : Int) then ((aj_.f k (rdOf ByteArray.empty t101 1)).bind fun bt108 => (if bt105.2 = true then (some (bt105.1, bt108.1, bt108.2)) else (some (bt105.1, bt108.1, false)))) else (none))) else (none)) else (some (0, 0, false)))
set_option maxHeartbeats 8000000 in
set_option maxRecDepth 100000 in
theorem cc_.calls (k : Nat) (a0 : ByteArray) (r1 : Int) (r2 : Int) (r3 : Bool) (w : World) (h : cc_.f k a0 = some (r1, r2, r3)) :
  Calls Tryz.prog 29 #[.string a0] w fun e w' => e = .returned (.tuple #[.int .i64 r1, .int .i64 r2, .bool r3]) ∧ Below w.heap.size w w' := by
 have HB := Aside0.mk (Below.refl w.heap.size w)
 have H : ((aP_.f k a0 120).bind fun t101 => (if (t101.length : Int) = 2 then (if 0 < (t101.length : Int) then ((aj_.f k (rdOf ByteArray.empty t101 0)).bind fun bt105 => (if 1 < (t101.length : Int) then ((aj_.f k (rdOf ByteArray.empty t101 1)).bind fun bt108 => (if bt105.2 = true then (some (bt105.1, bt108.1, bt108.2)) else (some (bt105.1, bt108.1, false)))) else (none))) else (none)) else (some (0, 0, false)))) = some (r1, r2, r3) := h
 clear h
 replace H := Option.bind_eq_some_iff.mp H
 obtain ⟨t101, A20, H⟩ := H
 (try dsimp only at H)
 have A2 := Aside0.mk A20
 clear A20
 have HC3 := Aside0.mk H
 clear H
 go_enter Tryz.func29, Tryz.ntmps29
 go_upto_if 14 with (first | ((with_reducible refine af_ (f := 26) rfl ?_); refine aJ_ (some 11) rfl rfl Tryz.func26 (by kernel_rfl) rfl #[.string a0, .int .u8 120] rfl (by first | rfl | (simp only [lma_, lmc_, lmn_]; first | done | rfl)) ?_; (with_reducible refine (aP_.calls k a0 120 t101 _ A2.out).mono ?_); rintro e w4 ⟨v102, rfl, ho0, hb⟩; refine ⟨_, rfl, ?_⟩; have HO103 := Aside0.mk (Kd.bz_ ho0 (ad_ (bz HB.out))); replace HB := Aside0.mk (ac_ (bz HB.out) hb); (try clear hb); (try clear ho0); obtain ⟨Ao5, co5, eo5⟩ := Kd.bv_ HO103.out; subst eo5))
 (try simp only [Act.put, lsa_, ls0_, ls1_])
 have H := HC3.out
 clear HC3
 by_cases c6 : (t101.length : Int) = 2
 rotate_left
 ·rw [if_neg c6] at H
  have c6b0 : ((t101.length : Int) == 2) = false := beq_eq_false_iff_ne.mpr c6
  have c6b1 : ((t101.length : Int) != 2) = true := bne_iff_ne.mpr c6
  (first | rw [c6b0] | (simp only [i64_w, i32_w]; rw [c6b0]) | (simp only [c6b1, Bool.not_true, Bool.not_false]) | (simp only [c6b0, Bool.not_true, Bool.not_false]) | skip)
  simp only [Option.some.injEq, Prod.mk.injEq] at H
  obtain ⟨rfl, rfl, rfl⟩ := H
  go_wp2
  go_ret3
  exact ⟨by first | rfl | (simp [*, ai_, ah_] <;> rfl), bz HB.out⟩
 rw [if_pos c6] at H
 have c6b0 : ((t101.length : Int) == 2) = true := beq_iff_eq.mpr c6
 have c6b1 : ((t101.length : Int) != 2) = false := bne_eq_false_iff_eq.mpr c6
 clear c6
 (first | rw [c6b0] | (simp only [i64_w, i32_w]; rw [c6b0]) | (simp only [c6b1, Bool.not_true, Bool.not_false]) | (simp only [c6b0, Bool.not_true, Bool.not_false]) | skip)
 by_cases c7 : 0 < (t101.length : Int)
 rotate_left
 ·rw [if_neg c7] at H
  exact absurd H (by simp)
 rw [if_pos c7] at H
 have c7b0 : decide (0 < (t101.length : Int)) = true := decide_eq_true c7
 have c7b1 : decide (0 < t101.length) = true := decide_eq_true (by omega)
 clear c7
 replace H := Option.bind_eq_some_iff.mp H
 obtain ⟨⟨t105, t106⟩, A80, H⟩ := H
 (try dsimp only at H)
 have A8 := Aside0.mk A80
 clear A80
 by_cases c9 : 1 < (t101.length : Int)
 rotate_left
 ·rw [if_neg c9] at H
  exact absurd H (by simp)
 rw [if_pos c9] at H
 have c9b0 : decide (1 < (t101.length : Int)) = true := decide_eq_true c9
 have c9b1 : decide (1 < t101.length) = true := decide_eq_true (by omega)
 clear c9
 replace H := Option.bind_eq_some_iff.mp H
 obtain ⟨⟨t108, t109⟩, A100, H⟩ := H
 (try dsimp only at H)
 have A10 := Aside0.mk A100
 clear A100
 by_cases c11 : t106 = true
 rotate_left
 ·replace c11 := Bool.eq_false_iff.mpr c11
  subst c11
  have H1 : (some (t105, t108, false)) = some (r1, r2, r3) := by rw [if_neg (show ¬ (false = true) by decide)] at H; exact H
  clear H
  have H := H1
  clear H1
  simp only [Option.some.injEq, Prod.mk.injEq] at H
  obtain ⟨rfl, rfl, rfl⟩ := H
  have p104 : 0 ≤ (0 : Int) := (by omega)
  have q104 : 0 < (t101.length : Int) := of_decide_eq_true (by assumption)
  obtain ⟨ad104, e104, hx104_0⟩ := Kd.bf_ (Kd.av_ HO103.out).2.2 0 p104 q104
  cases e104
  have qi104 : (0 < t101.length) = True := eq_true (by omega)
  (try rw [show ((0 : Int)).toNat = 0 from rfl] at hx104_0)
  (try rw [Addr.add_zero'] at hx104_0)
  replace p104 := eq_true p104
  replace q104 := eq_true q104
  go_wp2_with (first | ((with_reducible refine af_ (f := 27) rfl ?_); refine aJ_ (some 19) rfl rfl Tryz.func27 (by kernel_rfl) rfl #[.string (rdOf ByteArray.empty t101 0)] rfl (by first | rfl | (simp only [lma_, lmc_, lmn_]; first | done | rfl)) ?_; (with_reducible refine (aj_.calls k (rdOf ByteArray.empty t101 0) t105 false _ A8.out).mono ?_); rintro e w' ⟨rfl, ⟨nd, rfl⟩⟩; refine ⟨_, rfl, ?_⟩; (try (rw [bm_ w4]; generalize hq_ : World.drewN w4 _ = w4; replace HO103 := Aside0.mk (rqR hq_ HO103.out); replace HB := Aside0.mk (rqH hq_ HB.out); clear hq_)); have p107 : 0 ≤ (1 : Int) := (by omega); have q107 : 1 < (t101.length : Int) := of_decide_eq_true (by assumption); obtain ⟨ad107, e107, hx107_0⟩ := Kd.bf_ (Kd.av_ HO103.out).2.2 1 p107 q107; obtain rfl : ad104 = ad107 := (by injection e107); (try simp only [show (1 : Int).toNat = 1 from rfl, Nat.reduceMul, Nat.reduceEqDiff, Go.Addr.add, ↓reduceIte] at hx107_0); have qi107 : (1 < t101.length) = True := eq_true (by omega); (try rw [show ((1 : Int)).toNat = 1 from rfl] at hx107_0); replace p107 := eq_true p107; replace q107 := eq_true q107) | ((with_reducible refine af_ (f := 27) rfl ?_); refine aJ_ (some 26) rfl rfl Tryz.func27 (by kernel_rfl) rfl #[.string (rdOf ByteArray.empty t101 1)] rfl (by first | rfl | (simp only [lma_, lmc_, lmn_]; first | done | rfl)) ?_; (with_reducible refine (aj_.calls k (rdOf ByteArray.empty t101 1) t108 t109 _ A10.out).mono ?_); rintro e w' ⟨rfl, ⟨nd, rfl⟩⟩; refine ⟨_, rfl, ?_⟩; (try (rw [bm_ w4]; generalize hq_ : World.drewN w4 _ = w4; replace HO103 := Aside0.mk (rqR hq_ HO103.out); replace HB := Aside0.mk (rqH hq_ HB.out); clear hq_))))
  go_ret3
  exact ⟨by first | rfl | (simp [*, ai_, ah_] <;> rfl), bz HB.out⟩
 subst c11
 have H1 : (some (t105, t108, t109)) = some (r1, r2, r3) := by rw [if_pos rfl] at H; exact H
 clear H
 have H := H1
 clear H1
 simp only [Option.some.injEq, Prod.mk.injEq] at H
 obtain ⟨rfl, rfl, rfl⟩ := H
 have p104 : 0 ≤ (0 : Int) := (by omega)
 have q104 : 0 < (t101.length : Int) := of_decide_eq_true (by assumption)
 obtain ⟨ad104, e104, hx104_0⟩ := Kd.bf_ (Kd.av_ HO103.out).2.2 0 p104 q104
 cases e104
 have qi104 : (0 < t101.length) = True := eq_true (by omega)
 (try rw [show ((0 : Int)).toNat = 0 from rfl] at hx104_0)
 (try rw [Addr.add_zero'] at hx104_0)
 replace p104 := eq_true p104
 replace q104 := eq_true q104
 go_wp2_with (first | ((with_reducible refine af_ (f := 27) rfl ?_); refine aJ_ (some 19) rfl rfl Tryz.func27 (by kernel_rfl) rfl #[.string (rdOf ByteArray.empty t101 0)] rfl (by first | rfl | (simp only [lma_, lmc_, lmn_]; first | done | rfl)) ?_; (with_reducible refine (aj_.calls k (rdOf ByteArray.empty t101 0) t105 true _ A8.out).mono ?_); rintro e w' ⟨rfl, ⟨nd, rfl⟩⟩; refine ⟨_, rfl, ?_⟩; (try (rw [bm_ w4]; generalize hq_ : World.drewN w4 _ = w4; replace HO103 := Aside0.mk (rqR hq_ HO103.out); replace HB := Aside0.mk (rqH hq_ HB.out); clear hq_)); have p107 : 0 ≤ (1 : Int) := (by omega); have q107 : 1 < (t101.length : Int) := of_decide_eq_true (by assumption); obtain ⟨ad107, e107, hx107_0⟩ := Kd.bf_ (Kd.av_ HO103.out).2.2 1 p107 q107; obtain rfl : ad104 = ad107 := (by injection e107); (try simp only [show (1 : Int).toNat = 1 from rfl, Nat.reduceMul, Nat.reduceEqDiff, Go.Addr.add, ↓reduceIte] at hx107_0); have qi107 : (1 < t101.length) = True := eq_true (by omega); (try rw [show ((1 : Int)).toNat = 1 from rfl] at hx107_0); replace p107 := eq_true p107; replace q107 := eq_true q107) | ((with_reducible refine af_ (f := 27) rfl ?_); refine aJ_ (some 26) rfl rfl Tryz.func27 (by kernel_rfl) rfl #[.string (rdOf ByteArray.empty t101 1)] rfl (by first | rfl | (simp only [lma_, lmc_, lmn_]; first | done | rfl)) ?_; (with_reducible refine (aj_.calls k (rdOf ByteArray.empty t101 1) t108 t109 _ A10.out).mono ?_); rintro e w' ⟨rfl, ⟨nd, rfl⟩⟩; refine ⟨_, rfl, ?_⟩; (try (rw [bm_ w4]; generalize hq_ : World.drewN w4 _ = w4; replace HO103 := Aside0.mk (rqR hq_ HO103.out); replace HB := Aside0.mk (rqH hq_ HB.out); clear hq_))))
 go_ret3
 exact ⟨by first | rfl | (simp [*, ai_, ah_] <;> rfl), bz HB.out⟩
def bn_.l0 : Nat → List ByteArray → List Int → Int → Option (List Int × Bool)
 | 0, _, _, _ => none
 | k + 1, x4, x5, x6 => if x6 < (x4.length : Int) then (if 0 ≤ x6 then ((aj_.f k (rdOf ByteArray.empty x4 x6)).bind fun bt111 => (if bt111.2 = true then ((ao_.f bt111.1 (-1000000000000) 1000000000000).bind fun t113 => (if t113 = true then (if x5.length < 17592186044416 then (bn_.l0 k x4 (x5 ++ [bt111.1]) (wrap64 (x6 + 1))) else (none)) else (some (([] : List Int), false)))) else (some (([] : List Int), false)))) else (none)) else (some (x5, true))
def bn_.f (k : Nat) (a0 : ByteArray) : Option (List Int × Bool) := if a0.toList = ([45] : List UInt8) then (some ((([] : List Int)), true)) else ((aP_.f k a0 44).bind fun t104 => (if (t104.length : Int) > 64 then (some (([] : List Int), false)) else (bn_.l0 k t104 (([] : List Int)) 0)))
set_option maxHeartbeats 8000000 in
set_option maxRecDepth 100000 in
theorem bn_.calls (k : Nat) (a0 : ByteArray) (r1 : List Int) (r2 : Bool) (w : World) (h : bn_.f k a0 = some (r1, r2)) :
  Calls Tryz.prog 30 #[.string a0] w fun e w' => ∃ v0_ : Value, e = .returned (.tuple #[v0_, .bool r2]) ∧ Kd.R (Kd.int .i64) 2 w' w.heap.size (fun _ => True) v0_ r1 ∧ Below w.heap.size w w' := by
 have HB := Aside0.mk (Below.refl w.heap.size w)
 have H : (if a0.toList = ([45] : List UInt8) then (some ((([] : List Int)), true)) else ((aP_.f k a0 44).bind fun t104 => (if (t104.length : Int) > 64 then (some (([] : List Int), false)) else (bn_.l0 k t104 (([] : List Int)) 0)))) = some (r1, r2) := h
 clear h
 by_cases c2 : a0.toList = ([45] : List UInt8)
 rotate_left
 ·rw [if_neg c2] at H
  have c2b0 : (a0.toList == ([45] : List UInt8)) = false := beq_eq_false_iff_ne.mpr c2
  have c2b1 : (a0.toList != ([45] : List UInt8)) = true := bne_iff_ne.mpr c2
  replace H := Option.bind_eq_some_iff.mp H
  obtain ⟨t104, A50, H⟩ := H
  (try dsimp only at H)
  have A5 := Aside0.mk A50
  clear A50
  have HC6 := Aside0.mk H
  clear H
  go_enter Tryz.func30, Tryz.ntmps30
  go_upto_if 16 with (first | ((with_reducible refine af_ (f := 26) rfl ?_); refine aJ_ (some 13) rfl rfl Tryz.func26 (by kernel_rfl) rfl #[.string a0, .int .u8 44] rfl (by first | rfl | (simp only [lma_, lmc_, lmn_]; first | done | rfl)) ?_; (with_reducible refine (aP_.calls k a0 44 t104 _ A5.out).mono ?_); rintro e w7 ⟨v105, rfl, ho0, hb⟩; refine ⟨_, rfl, ?_⟩; have HO106 := Aside0.mk (Kd.bz_ ho0 (ad_ (bz HB.out))); replace HB := Aside0.mk (ac_ (bz HB.out) hb); (try clear hb); (try clear ho0); obtain ⟨Ao8, co8, eo8⟩ := Kd.bv_ HO106.out; subst eo8))
  (try simp only [Act.put, lsa_, ls0_, ls1_])
  have H := HC6.out
  clear HC6
  by_cases c9 : (t104.length : Int) > 64
  rotate_left
  ·rw [if_neg c9] at H
   have c9b0 : decide (64 < (t104.length : Int)) = false := decide_eq_false c9
   have c9b1 : decide (64 < t104.length) = false := decide_eq_false (by omega)
   clear c9
   (first | rw [c9b0] | (simp only [i64_w, i32_w]; rw [c9b0]) | (simp only [c9b1, Bool.not_true, Bool.not_false]) | (simp only [c9b0, Bool.not_true, Bool.not_false]) | skip)
   obtain ⟨y107, hy107⟩ : ∃ y_ : List Int, y_ = (([] : List Int)) := ⟨_, rfl⟩
   replace H : (bn_.l0 k t104 y107 0) = some (r1, r2) := by first | (rw [hy107]; with_reducible exact H) | (have H2_ := (Option.bind_some _ _).symm.trans H; rw [hy107]; with_reducible exact H2_) | (have H2_ := (Option.bind_some _ _).symm.trans H; with_reducible exact H2_) | with_reducible exact H | (rw [hy107]; exact H) | exact H
   have Ny107 := Aside0.mk hy107
   clear hy107
   have H' := Aside0.mk H
   clear H
   go_wp2_with (first | ((with_reducible refine aI_ (N := 17) rfl ?_); refine Kd.R_lit (Kd.int .i64) _ 2 ?hg (N := 17) ?hd (xs := ([] : List Int)) (inner := []) (ok := fun _ => True) (okp := fun _ => True) ?hr ?hp (fun _ hk => hk) trivial (Below.refl _ _) (Nat.le_refl _) (by simp) ?_; (case hd => rfl); (case hg => rfl); (case hr => (go_simp; try rfl)); (case hp => exact (Reps.none _ _)); intro v108 w10 ho11 hb hg_ hnew_; clear hg_ hnew_; (first | rw [← Ny107.out] at ho11 | (simp only [Int.reduceToNat] at ho11; rw [← Ny107.out] at ho11)); replace HO106 := Aside0.mk (Kd.aV_ (rz HO106.out) hb); have HO109 := Aside0.mk (Kd.bz_ ho11 (ad_ (bz HB.out))); replace HB := Aside0.mk (ac_ (bz HB.out) hb); clear hb ho11))
   (try simp only [Act.put, lsa_, ls0_, ls1_])
   go_loopg [5, 6] k (fun kq v5 v6 w' => ∃ (x5_1 : List Int) (x6_1 : Int), v6 = .int .i64 x6_1 ∧ Aside0 (bn_.l0 kq t104 x5_1 x6_1 = some (r1, r2)) ∧ Aside0 (kq ≤ k) ∧ Aside0 (Kd.R Kd.string 9 w' w.heap.size (fun _ => True) (.slice Ao8 t104.length co8) t104) ∧ Aside0 (Kd.R (Kd.int .i64) 2 w' w.heap.size (fun _ => True) v5 x5_1) ∧ Aside0 (Below w.heap.size w w'))
   case atStart => exact ⟨(y107), (0), (by first | rfl | (simp; done) | (simp [*]; done)), H', ⟨Nat.le_refl _⟩, ⟨rz HO106.out⟩, ⟨rz HO109.out⟩, ⟨bz HB.out⟩⟩
   case round =>
    clear H'
    obtain ⟨x5_1, x6_1, rfl, HA, HK1, HO_4, HO_5, HB⟩ := hrel
    cases gk with
    | zero => exact absurd HA.out (by simp [bn_.l0])
    | succ k1 =>
     have H := HA.out
     clear HA
     simp only [bn_.l0] at H
     by_cases c12 : x6_1 < (t104.length : Int)
     rotate_left
     ·rw [if_neg c12] at H
      have c12b0 : decide (x6_1 < (t104.length : Int)) = false := decide_eq_false c12
      clear c12
      simp only [Option.some.injEq, Prod.mk.injEq] at H
      obtain ⟨rfl, rfl⟩ := H
      go_wp2
      go_ret2
      exact ⟨_, by first | rfl | (simp [*, ai_, ah_] <;> rfl), rz HO_5.out, bz HB.out⟩
     rw [if_pos c12] at H
     have c12b0 : decide (x6_1 < (t104.length : Int)) = true := decide_eq_true c12
     clear c12
     by_cases c13 : 0 ≤ x6_1
     rotate_left
     ·rw [if_neg c13] at H
      exact absurd H (by simp)
     rw [if_pos c13] at H
     have c13b0 : decide (0 ≤ x6_1) = true := decide_eq_true c13
     clear c13
     replace H := Option.bind_eq_some_iff.mp H
     obtain ⟨⟨t111, t112⟩, A140, H⟩ := H
     (try dsimp only at H)
     have A14 := Aside0.mk A140
     clear A140
     by_cases c15 : t112 = true
     rotate_left
     ·replace c15 := Bool.eq_false_iff.mpr c15
      subst c15
      have H1 : (some (([] : List Int), false)) = some (r1, r2) := by rw [if_neg (show ¬ (false = true) by decide)] at H; exact H
      clear H
      have H := H1
      clear H1
      simp only [Option.some.injEq, Prod.mk.injEq] at H
      obtain ⟨rfl, rfl⟩ := H
      have p110 : 0 ≤ (x6_1 : Int) := of_decide_eq_true (by assumption)
      have q110 : x6_1 < (t104.length : Int) := of_decide_eq_true (by assumption)
      obtain ⟨ad110, e110, hx110_0⟩ := Kd.bf_ (Kd.av_ HO_4.out).2.2 x6_1 p110 q110
      cases e110
      replace p110 := eq_true p110
      replace q110 := eq_true q110
      go_wp2_with (first | ((with_reducible refine af_ (f := 27) rfl ?_); refine aJ_ (some 29) rfl rfl Tryz.func27 (by kernel_rfl) rfl #[.string (rdOf ByteArray.empty t104 x6_1)] rfl (by first | rfl | (simp only [lma_, lmc_, lmn_]; first | done | rfl)) ?_; (with_reducible refine (aj_.calls k1 (rdOf ByteArray.empty t104 x6_1) t111 false _ A14.out).mono ?_); rintro e w' ⟨rfl, ⟨nd, rfl⟩⟩; refine ⟨_, rfl, ?_⟩; (try (rw [bm_ wr]; generalize hq_ : World.drewN wr _ = wr; replace HO_4 := Aside0.mk (rqR hq_ HO_4.out); replace HO_5 := Aside0.mk (rqR hq_ HO_5.out); replace HB := Aside0.mk (rqH hq_ HB.out); clear hq_))))
      go_ret2
      exact ⟨_, by first | rfl | (simp [*, ai_, ah_] <;> rfl), by first | exact Kd.R_nil _ _ _ _ _ | exact Kd.N_nil _ _ _ _ _ | exact Kd.V_nil _ _ _ _ _ | exact Kd.Q_nil _ _ _ _ _ | exact Kd.S_nil _ _ _ _ _, bz HB.out⟩
     subst c15
     have H1 : ((ao_.f t111 (-1000000000000) 1000000000000).bind fun t113 => (if t113 = true then (if x5_1.length < 17592186044416 then (bn_.l0 k1 t104 (x5_1 ++ [t111]) (wrap64 (x6_1 + 1))) else (none)) else (some (([] : List Int), false)))) = some (r1, r2) := by rw [if_pos rfl] at H; exact H
     clear H
     have H := H1
     clear H1
     replace H := Option.bind_eq_some_iff.mp H
     obtain ⟨t113, A160, H⟩ := H
     (try dsimp only at H)
     have A16 := Aside0.mk A160
     clear A160
     have HC17 := Aside0.mk H
     clear H
     have p110 : 0 ≤ (x6_1 : Int) := of_decide_eq_true (by assumption)
     have q110 : x6_1 < (t104.length : Int) := of_decide_eq_true (by assumption)
     obtain ⟨ad110, e110, hx110_0⟩ := Kd.bf_ (Kd.av_ HO_4.out).2.2 x6_1 p110 q110
     cases e110
     replace p110 := eq_true p110
     replace q110 := eq_true q110
     go_upto_if 38 with (first | ((with_reducible refine af_ (f := 27) rfl ?_); refine aJ_ (some 29) rfl rfl Tryz.func27 (by kernel_rfl) rfl #[.string (rdOf ByteArray.empty t104 x6_1)] rfl (by first | rfl | (simp only [lma_, lmc_, lmn_]; first | done | rfl)) ?_; (with_reducible refine (aj_.calls k1 (rdOf ByteArray.empty t104 x6_1) t111 true _ A14.out).mono ?_); rintro e w' ⟨rfl, ⟨nd, rfl⟩⟩; refine ⟨_, rfl, ?_⟩; (try (rw [bm_ wr]; generalize hq_ : World.drewN wr _ = wr; replace HO_4 := Aside0.mk (rqR hq_ HO_4.out); replace HO_5 := Aside0.mk (rqR hq_ HO_5.out); replace HB := Aside0.mk (rqH hq_ HB.out); clear hq_))) | (go_at_call 45; (with_reducible refine (ao_.calls t111 (-1000000000000) 1000000000000 t113 _ A16.out).mono ?_); rintro e w' ⟨rfl, ⟨nd, rfl⟩⟩; (try (rw [bm_ wr]; generalize hq_ : World.drewN wr _ = wr; replace HO_4 := Aside0.mk (rqR hq_ HO_4.out); replace HO_5 := Aside0.mk (rqR hq_ HO_5.out); replace HB := Aside0.mk (rqH hq_ HB.out); clear hq_))))
     (try simp only [Act.put, lsa_, ls0_, ls1_])
     have H := HC17.out
     clear HC17
     by_cases c18 : t113 = true
     rotate_left
     ·replace c18 := Bool.eq_false_iff.mpr c18
      subst c18
      have H1 : (some (([] : List Int), false)) = some (r1, r2) := by rw [if_neg (show ¬ (false = true) by decide)] at H; exact H
      clear H
      have H := H1
      clear H1
      simp only [Option.some.injEq, Prod.mk.injEq] at H
      obtain ⟨rfl, rfl⟩ := H
      go_wp2
      go_ret2
      exact ⟨_, by first | rfl | (simp [*, ai_, ah_] <;> rfl), by first | exact Kd.R_nil _ _ _ _ _ | exact Kd.N_nil _ _ _ _ _ | exact Kd.V_nil _ _ _ _ _ | exact Kd.Q_nil _ _ _ _ _ | exact Kd.S_nil _ _ _ _ _, bz HB.out⟩
     subst c18
     have H1 : (if x5_1.length < 17592186044416 then (bn_.l0 k1 t104 (x5_1 ++ [t111]) (wrap64 (x6_1 + 1))) else (none)) = some (r1, r2) := by rw [if_pos rfl] at H; exact H
     clear H
     have H := H1
     clear H1
     by_cases c19 : x5_1.length < 17592186044416
     rotate_left
     ·rw [if_neg c19] at H
      exact absurd H (by simp)
     rw [if_pos c19] at H
     have LMc19 := Aside0.mk c19
     clear c19
     obtain ⟨y114, hy114⟩ : ∃ y_ : List Int, y_ = (x5_1 ++ [t111]) := ⟨_, rfl⟩
     replace H : (bn_.l0 k1 t104 y114 (wrap64 (x6_1 + 1))) = some (r1, r2) := by first | (rw [hy114]; with_reducible exact H) | (have H2_ := (Option.bind_some _ _).symm.trans H; rw [hy114]; with_reducible exact H2_) | (have H2_ := (Option.bind_some _ _).symm.trans H; with_reducible exact H2_) | with_reducible exact H | (rw [hy114]; exact H) | exact H
     have Ny114 := Aside0.mk hy114
     clear hy114
     have H' := Aside0.mk H
     clear H
     go_wp2_with (first | ((with_reducible refine cg_ (b := .append) (xs := #[.tmp 39, .tmp 41]) rfl ?_); at_builtin; refine Kd.R_append (Kd.int .i64) (w0 := w) w.heap.size rfl (.tmp 39) (.tmp 41) 62 2 (.int .i64 0) 8 rfl Tryz.underlying62 info2 rfl (by decide) (by omega) u5 x5_1 t111 [.int .i64 t111] (fun _ => True) (fun _ => False) rfl rfl ?aP (fun _ hk => hk.elim) ?aF ?aO ?aB ?aS ?aL ?_; (case aP => exact rfl); (case aB => exact (bz HB.out)); (case aF => exact (fun _ _ => trivial)); (case aO => exact (rz HO_5.out)); (case aS => exact (ad_ (bz HB.out))); (case aL => have := LMc19.out; omega); intro v115 w20 ho hb hg hat; rw [← Ny114.out] at ho; replace HO_4 := Aside0.mk (Kd.R_over' (rz HO_4.out) (Kd.R_typed (rz HO_5.out)) (by decide) hg); replace HB := Aside0.mk (hb); have HO116 := Aside0.mk (ho); clear HO_5; clear ho hb hg hat))
     go_roundg k1
     case measure => have := HK1.out; omega
     case rel => exact ⟨(y114), (wrap64 (x6_1 + 1)), (by first | rfl | (simp; done) | (simp [*]; done)), H', ⟨by have := HK1.out; omega⟩, ⟨rz HO_4.out⟩, ⟨rz HO116.out⟩, ⟨bz HB.out⟩⟩
  rw [if_pos c9] at H
  have c9b0 : decide (64 < (t104.length : Int)) = true := decide_eq_true c9
  have c9b1 : decide (64 < t104.length) = true := decide_eq_true (by omega)
  clear c9
  (first | rw [c9b0] | (simp only [i64_w, i32_w]; rw [c9b0]) | (simp only [c9b1, Bool.not_true, Bool.not_false]) | (simp only [c9b0, Bool.not_true, Bool.not_false]) | skip)
  simp only [Option.some.injEq, Prod.mk.injEq] at H
  obtain ⟨rfl, rfl⟩ := H
  go_wp2
  go_ret2
  exact ⟨_, by first | rfl | (simp [*, ai_, ah_] <;> rfl), by first | exact Kd.R_nil _ _ _ _ _ | exact Kd.N_nil _ _ _ _ _ | exact Kd.V_nil _ _ _ _ _ | exact Kd.Q_nil _ _ _ _ _ | exact Kd.S_nil _ _ _ _ _, bz HB.out⟩
 rw [if_pos c2] at H
 have c2b0 : (a0.toList == ([45] : List UInt8)) = true := beq_iff_eq.mpr c2
 have c2b1 : (a0.toList != ([45] : List UInt8)) = false := bne_eq_false_iff_eq.mpr c2
 clear c2
 obtain ⟨y101, hy101⟩ : ∃ y_ : List Int, y_ = (([] : List Int)) := ⟨_, rfl⟩
 replace H : (some (y101, true)) = some (r1, r2) := by first | (rw [hy101]; with_reducible exact H) | (have H2_ := (Option.bind_some _ _).symm.trans H; rw [hy101]; with_reducible exact H2_) | (have H2_ := (Option.bind_some _ _).symm.trans H; with_reducible exact H2_) | with_reducible exact H | (rw [hy101]; exact H) | exact H
 have Ny101 := Aside0.mk hy101
 clear hy101
 simp only [Option.some.injEq, Prod.mk.injEq] at H
 obtain ⟨rfl, rfl⟩ := H
 go_enter Tryz.func30, Tryz.ntmps30
 go_wp2_with (first | ((with_reducible refine aI_ (N := 11) rfl ?_); refine Kd.R_lit (Kd.int .i64) _ 2 ?hg (N := 11) ?hd (xs := ([] : List Int)) (inner := []) (ok := fun _ => True) (okp := fun _ => True) ?hr ?hp (fun _ hk => hk) trivial (Below.refl _ _) (Nat.le_refl _) (by simp) ?_; (case hd => rfl); (case hg => rfl); (case hr => (go_simp; try rfl)); (case hp => exact (Reps.none _ _)); intro v102 w3 ho4 hb hg_ hnew_; clear hg_ hnew_; (first | rw [← Ny101.out] at ho4 | (simp only [Int.reduceToNat] at ho4; rw [← Ny101.out] at ho4)); have HO103 := Aside0.mk (Kd.bz_ ho4 (ad_ (bz HB.out))); replace HB := Aside0.mk (ac_ (bz HB.out) hb); clear hb ho4))
 go_ret2
 exact ⟨_, by first | rfl | (simp [*, ai_, ah_] <;> rfl), rz HO103.out, bz HB.out⟩
def cB_.f (l0 : List (S66)) (a1 : Int) (a2 : Int) : Option (Bool) := if 0 < (l0.length : Int) then ((ao_.f ((al_ l0 0).f0) 0 a1).bind fun t102 => (if t102 = true then ((ao_.f ((al_ l0 0).f1) 0 a2).bind fun t104 => (if t104 = true then ((ao_.f ((al_ l0 0).f2) 1 (wrap64 (a1 - ((al_ l0 0).f0)))).bind fun t107 => (if t107 = true then ((ao_.f ((al_ l0 0).f3) 1 (wrap64 (a2 - ((al_ l0 0).f1)))).bind fun t110 => (some t110)) else (some false))) else (some false))) else (some false))) else (none)
set_option maxHeartbeats 8000000 in
set_option maxRecDepth 100000 in
theorem cB_.calls (A0 : Option Addr) (l0 : List (S66)) (a1 : Int) (a2 : Int) (r : Bool) (w : World) (hr0 : Kd.C k66 w A0 l0.length l0) (h : cB_.f l0 a1 a2 = some r) :
  Calls Tryz.prog 46 #[.pointer A0, .int .i64 a1, .int .i64 a2] w fun e w' => e = .returned (.bool r) ∧ ap_ w w' := by
 have HR0 := Aside0.mk hr0
 clear hr0
 have H : (if 0 < (l0.length : Int) then ((ao_.f ((al_ l0 0).f0) 0 a1).bind fun t102 => (if t102 = true then ((ao_.f ((al_ l0 0).f1) 0 a2).bind fun t104 => (if t104 = true then ((ao_.f ((al_ l0 0).f2) 1 (wrap64 (a1 - ((al_ l0 0).f0)))).bind fun t107 => (if t107 = true then ((ao_.f ((al_ l0 0).f3) 1 (wrap64 (a2 - ((al_ l0 0).f1)))).bind fun t110 => (some t110)) else (some false))) else (some false))) else (some false))) else (none)) = some r := h
 clear h
 by_cases c4 : 0 < (l0.length : Int)
 rotate_left
 ·rw [if_neg c4] at H
  exact absurd H (by simp)
 rw [if_pos c4] at H
 have c4b0 : decide (0 < (l0.length : Int)) = true := decide_eq_true c4
 have c4b1 : decide (0 < l0.length) = true := decide_eq_true (by omega)
 clear c4
 replace H := Option.bind_eq_some_iff.mp H
 obtain ⟨t102, A50, H⟩ := H
 (try dsimp only at H)
 have A5 := Aside0.mk A50
 clear A50
 by_cases c6 : t102 = true
 rotate_left
 ·replace c6 := Bool.eq_false_iff.mpr c6
  subst c6
  have H1 : (some false) = some r := by rw [if_neg (show ¬ (false = true) by decide)] at H; exact H
  clear H
  have H := H1
  clear H1
  obtain rfl := Option.some.inj H
  have p101 : 0 ≤ (0 : Int) := (by omega)
  have q101 : 0 < (l0.length : Int) := of_decide_eq_true (by assumption)
  obtain ⟨ad101, e101, hx101_0, hx101_1, hx101_2, hx101_3⟩ := ck_ HR0.out 0 p101 q101
  cases e101
  have qi101 : (0 < l0.length) = True := eq_true (by omega)
  (try simp only [Int.toNat_zero, Nat.zero_mul, Addr.add_zero'] at hx101_0 hx101_1)
  (try simp only [Int.toNat_zero, Nat.zero_mul, Addr.add_zero'] at hx101_2 hx101_3)
  replace p101 := eq_true p101
  replace q101 := eq_true q101
  go_enter Tryz.func46, Tryz.ntmps46
  go_wp2_with (first | (go_at_call 45; (with_reducible refine (ao_.calls ((al_ l0 0).f0) 0 a1 false _ A5.out).mono ?_); rintro e w' ⟨rfl, ⟨nd, rfl⟩⟩; (try first | exact ⟨rfl, _, World.drewN_drewN _ _ _⟩ | exact ⟨rfl, _, Eq.trans (World.drewN_drewN _ _ _) (congrArg (World.drewN _) (Nat.add_assoc _ _ _))⟩)))
  repeat (go_quiet (first | (go_at_call 45; (with_reducible refine (ao_.calls ((al_ l0 0).f0) 0 a1 false _ A5.out).mono ?_); rintro e w' ⟨rfl, ⟨nd, rfl⟩⟩; (try first | exact ⟨rfl, _, World.drewN_drewN _ _ _⟩ | exact ⟨rfl, _, Eq.trans (World.drewN_drewN _ _ _) (congrArg (World.drewN _) (Nat.add_assoc _ _ _))⟩))); try go_wp2_with (first | (go_at_call 45; (with_reducible refine (ao_.calls ((al_ l0 0).f0) 0 a1 false _ A5.out).mono ?_); rintro e w' ⟨rfl, ⟨nd, rfl⟩⟩; (try first | exact ⟨rfl, _, World.drewN_drewN _ _ _⟩ | exact ⟨rfl, _, Eq.trans (World.drewN_drewN _ _ _) (congrArg (World.drewN _) (Nat.add_assoc _ _ _))⟩))))
  go_ret
  exact ⟨by first | rfl | (simp; done) | (simp [*]; done), by repeat (first | exact ap_.refl _ | apply ap_.step)⟩
 subst c6
 have H1 : ((ao_.f ((al_ l0 0).f1) 0 a2).bind fun t104 => (if t104 = true then ((ao_.f ((al_ l0 0).f2) 1 (wrap64 (a1 - ((al_ l0 0).f0)))).bind fun t107 => (if t107 = true then ((ao_.f ((al_ l0 0).f3) 1 (wrap64 (a2 - ((al_ l0 0).f1)))).bind fun t110 => (some t110)) else (some false))) else (some false))) = some r := by rw [if_pos rfl] at H; exact H
 clear H
 have H := H1
 clear H1
 replace H := Option.bind_eq_some_iff.mp H
 obtain ⟨t104, A70, H⟩ := H
 (try dsimp only at H)
 have A7 := Aside0.mk A70
 clear A70
 by_cases c8 : t104 = true
 rotate_left
 ·replace c8 := Bool.eq_false_iff.mpr c8
  subst c8
  have H1 : (some false) = some r := by rw [if_neg (show ¬ (false = true) by decide)] at H; exact H
  clear H
  have H := H1
  clear H1
  obtain rfl := Option.some.inj H
  have p101 : 0 ≤ (0 : Int) := (by omega)
  have q101 : 0 < (l0.length : Int) := of_decide_eq_true (by assumption)
  obtain ⟨ad101, e101, hx101_0, hx101_1, hx101_2, hx101_3⟩ := ck_ HR0.out 0 p101 q101
  cases e101
  have qi101 : (0 < l0.length) = True := eq_true (by omega)
  (try simp only [Int.toNat_zero, Nat.zero_mul, Addr.add_zero'] at hx101_0 hx101_1)
  (try simp only [Int.toNat_zero, Nat.zero_mul, Addr.add_zero'] at hx101_2 hx101_3)
  replace p101 := eq_true p101
  replace q101 := eq_true q101
  have p103 : 0 ≤ (0 : Int) := (by omega)
  have q103 : 0 < (l0.length : Int) := of_decide_eq_true (by assumption)
  obtain ⟨ad103, e103, hx103_0, hx103_1, hx103_2, hx103_3⟩ := ck_ HR0.out 0 p103 q103
  obtain rfl : ad101 = ad103 := (by injection e103)
  have qi103 : (0 < l0.length) = True := eq_true (by omega)
  (try simp only [Int.toNat_zero, Nat.zero_mul, Addr.add_zero'] at hx103_0 hx103_1)
  (try simp only [Int.toNat_zero, Nat.zero_mul, Addr.add_zero'] at hx103_2 hx103_3)
  replace p103 := eq_true p103
  replace q103 := eq_true q103
  go_enter Tryz.func46, Tryz.ntmps46
  go_wp2_with (first | (go_at_call 45; (with_reducible refine (ao_.calls ((al_ l0 0).f0) 0 a1 true _ A5.out).mono ?_); rintro e w' ⟨rfl, ⟨nd, rfl⟩⟩; (try first | exact ⟨rfl, _, World.drewN_drewN _ _ _⟩ | exact ⟨rfl, _, Eq.trans (World.drewN_drewN _ _ _) (congrArg (World.drewN _) (Nat.add_assoc _ _ _))⟩)) | (go_at_call 45; (with_reducible refine (ao_.calls ((al_ l0 0).f1) 0 a2 false _ A7.out).mono ?_); rintro e w' ⟨rfl, ⟨nd, rfl⟩⟩; (try first | exact ⟨rfl, _, World.drewN_drewN _ _ _⟩ | exact ⟨rfl, _, Eq.trans (World.drewN_drewN _ _ _) (congrArg (World.drewN _) (Nat.add_assoc _ _ _))⟩)))
  repeat (go_quiet (first | (go_at_call 45; (with_reducible refine (ao_.calls ((al_ l0 0).f0) 0 a1 true _ A5.out).mono ?_); rintro e w' ⟨rfl, ⟨nd, rfl⟩⟩; (try first | exact ⟨rfl, _, World.drewN_drewN _ _ _⟩ | exact ⟨rfl, _, Eq.trans (World.drewN_drewN _ _ _) (congrArg (World.drewN _) (Nat.add_assoc _ _ _))⟩)) | (go_at_call 45; (with_reducible refine (ao_.calls ((al_ l0 0).f1) 0 a2 false _ A7.out).mono ?_); rintro e w' ⟨rfl, ⟨nd, rfl⟩⟩; (try first | exact ⟨rfl, _, World.drewN_drewN _ _ _⟩ | exact ⟨rfl, _, Eq.trans (World.drewN_drewN _ _ _) (congrArg (World.drewN _) (Nat.add_assoc _ _ _))⟩))); try go_wp2_with (first | (go_at_call 45; (with_reducible refine (ao_.calls ((al_ l0 0).f0) 0 a1 true _ A5.out).mono ?_); rintro e w' ⟨rfl, ⟨nd, rfl⟩⟩; (try first | exact ⟨rfl, _, World.drewN_drewN _ _ _⟩ | exact ⟨rfl, _, Eq.trans (World.drewN_drewN _ _ _) (congrArg (World.drewN _) (Nat.add_assoc _ _ _))⟩)) | (go_at_call 45; (with_reducible refine (ao_.calls ((al_ l0 0).f1) 0 a2 false _ A7.out).mono ?_); rintro e w' ⟨rfl, ⟨nd, rfl⟩⟩; (try first | exact ⟨rfl, _, World.drewN_drewN _ _ _⟩ | exact ⟨rfl, _, Eq.trans (World.drewN_drewN _ _ _) (congrArg (World.drewN _) (Nat.add_assoc _ _ _))⟩))))
  go_ret
  exact ⟨by first | rfl | (simp; done) | (simp [*]; done), by repeat (first | exact ap_.refl _ | apply ap_.step)⟩
 subst c8
 have H1 : ((ao_.f ((al_ l0 0).f2) 1 (wrap64 (a1 - ((al_ l0 0).f0)))).bind fun t107 => (if t107 = true then ((ao_.f ((al_ l0 0).f3) 1 (wrap64 (a2 - ((al_ l0 0).f1)))).bind fun t110 => (some t110)) else (some false))) = some r := by rw [if_pos rfl] at H; exact H
 clear H
 have H := H1
 clear H1
 replace H := Option.bind_eq_some_iff.mp H
 obtain ⟨t107, A90, H⟩ := H
 (try dsimp only at H)
 have A9 := Aside0.mk A90
 clear A90
 by_cases c10 : t107 = true
 rotate_left
 ·replace c10 := Bool.eq_false_iff.mpr c10
  subst c10
  have H1 : (some false) = some r := by rw [if_neg (show ¬ (false = true) by decide)] at H; exact H
  clear H
  have H := H1
  clear H1
  obtain rfl := Option.some.inj H
  have p101 : 0 ≤ (0 : Int) := (by omega)
  have q101 : 0 < (l0.length : Int) := of_decide_eq_true (by assumption)
  obtain ⟨ad101, e101, hx101_0, hx101_1, hx101_2, hx101_3⟩ := ck_ HR0.out 0 p101 q101
  cases e101
  have qi101 : (0 < l0.length) = True := eq_true (by omega)
  (try simp only [Int.toNat_zero, Nat.zero_mul, Addr.add_zero'] at hx101_0 hx101_1)
  (try simp only [Int.toNat_zero, Nat.zero_mul, Addr.add_zero'] at hx101_2 hx101_3)
  replace p101 := eq_true p101
  replace q101 := eq_true q101
  have p103 : 0 ≤ (0 : Int) := (by omega)
  have q103 : 0 < (l0.length : Int) := of_decide_eq_true (by assumption)
  obtain ⟨ad103, e103, hx103_0, hx103_1, hx103_2, hx103_3⟩ := ck_ HR0.out 0 p103 q103
  obtain rfl : ad101 = ad103 := (by injection e103)
  have qi103 : (0 < l0.length) = True := eq_true (by omega)
  (try simp only [Int.toNat_zero, Nat.zero_mul, Addr.add_zero'] at hx103_0 hx103_1)
  (try simp only [Int.toNat_zero, Nat.zero_mul, Addr.add_zero'] at hx103_2 hx103_3)
  replace p103 := eq_true p103
  replace q103 := eq_true q103
  have p105 : 0 ≤ (0 : Int) := (by omega)
  have q105 : 0 < (l0.length : Int) := of_decide_eq_true (by assumption)
  obtain ⟨ad105, e105, hx105_0, hx105_1, hx105_2, hx105_3⟩ := ck_ HR0.out 0 p105 q105
  obtain rfl : ad101 = ad105 := (by injection e105)
  have qi105 : (0 < l0.length) = True := eq_true (by omega)
  (try simp only [Int.toNat_zero, Nat.zero_mul, Addr.add_zero'] at hx105_0 hx105_1)
  (try simp only [Int.toNat_zero, Nat.zero_mul, Addr.add_zero'] at hx105_2 hx105_3)
  replace p105 := eq_true p105
  replace q105 := eq_true q105
  have p106 : 0 ≤ (0 : Int) := (by omega)
  have q106 : 0 < (l0.length : Int) := of_decide_eq_true (by assumption)
  obtain ⟨ad106, e106, hx106_0, hx106_1, hx106_2, hx106_3⟩ := ck_ HR0.out 0 p106 q106
  obtain rfl : ad101 = ad106 := (by injection e106)
  have qi106 : (0 < l0.length) = True := eq_true (by omega)
  (try simp only [Int.toNat_zero, Nat.zero_mul, Addr.add_zero'] at hx106_0 hx106_1)
  (try simp only [Int.toNat_zero, Nat.zero_mul, Addr.add_zero'] at hx106_2 hx106_3)
  replace p106 := eq_true p106
  replace q106 := eq_true q106
  go_enter Tryz.func46, Tryz.ntmps46
  go_wp2_with (first | (go_at_call 45; (with_reducible refine (ao_.calls ((al_ l0 0).f0) 0 a1 true _ A5.out).mono ?_); rintro e w' ⟨rfl, ⟨nd, rfl⟩⟩; (try first | exact ⟨rfl, _, World.drewN_drewN _ _ _⟩ | exact ⟨rfl, _, Eq.trans (World.drewN_drewN _ _ _) (congrArg (World.drewN _) (Nat.add_assoc _ _ _))⟩)) | (go_at_call 45; (with_reducible refine (ao_.calls ((al_ l0 0).f1) 0 a2 true _ A7.out).mono ?_); rintro e w' ⟨rfl, ⟨nd, rfl⟩⟩; (try first | exact ⟨rfl, _, World.drewN_drewN _ _ _⟩ | exact ⟨rfl, _, Eq.trans (World.drewN_drewN _ _ _) (congrArg (World.drewN _) (Nat.add_assoc _ _ _))⟩)) | (go_at_call 45; (with_reducible refine (ao_.calls ((al_ l0 0).f2) 1 (wrap64 (a1 - ((al_ l0 0).f0))) false _ A9.out).mono ?_); rintro e w' ⟨rfl, ⟨nd, rfl⟩⟩; (try first | exact ⟨rfl, _, World.drewN_drewN _ _ _⟩ | exact ⟨rfl, _, Eq.trans (World.drewN_drewN _ _ _) (congrArg (World.drewN _) (Nat.add_assoc _ _ _))⟩)))
  repeat (go_quiet (first | (go_at_call 45; (with_reducible refine (ao_.calls ((al_ l0 0).f0) 0 a1 true _ A5.out).mono ?_); rintro e w' ⟨rfl, ⟨nd, rfl⟩⟩; (try first | exact ⟨rfl, _, World.drewN_drewN _ _ _⟩ | exact ⟨rfl, _, Eq.trans (World.drewN_drewN _ _ _) (congrArg (World.drewN _) (Nat.add_assoc _ _ _))⟩)) | (go_at_call 45; (with_reducible refine (ao_.calls ((al_ l0 0).f1) 0 a2 true _ A7.out).mono ?_); rintro e w' ⟨rfl, ⟨nd, rfl⟩⟩; (try first | exact ⟨rfl, _, World.drewN_drewN _ _ _⟩ | exact ⟨rfl, _, Eq.trans (World.drewN_drewN _ _ _) (congrArg (World.drewN _) (Nat.add_assoc _ _ _))⟩)) | (go_at_call 45; (with_reducible refine (ao_.calls ((al_ l0 0).f2) 1 (wrap64 (a1 - ((al_ l0 0).f0))) false _ A9.out).mono ?_); rintro e w' ⟨rfl, ⟨nd, rfl⟩⟩; (try first | exact ⟨rfl, _, World.drewN_drewN _ _ _⟩ | exact ⟨rfl, _, Eq.trans (World.drewN_drewN _ _ _) (congrArg (World.drewN _) (Nat.add_assoc _ _ _))⟩))); try go_wp2_with (first | (go_at_call 45; (with_reducible refine (ao_.calls ((al_ l0 0).f0) 0 a1 true _ A5.out).mono ?_); rintro e w' ⟨rfl, ⟨nd, rfl⟩⟩; (try first | exact ⟨rfl, _, World.drewN_drewN _ _ _⟩ | exact ⟨rfl, _, Eq.trans (World.drewN_drewN _ _ _) (congrArg (World.drewN _) (Nat.add_assoc _ _ _))⟩)) | (go_at_call 45; (with_reducible refine (ao_.calls ((al_ l0 0).f1) 0 a2 true _ A7.out).mono ?_); rintro e w' ⟨rfl, ⟨nd, rfl⟩⟩; (try first | exact ⟨rfl, _, World.drewN_drewN _ _ _⟩ | exact ⟨rfl, _, Eq.trans (World.drewN_drewN _ _ _) (congrArg (World.drewN _) (Nat.add_assoc _ _ _))⟩)) | (go_at_call 45; (with_reducible refine (ao_.calls ((al_ l0 0).f2) 1 (wrap64 (a1 - ((al_ l0 0).f0))) false _ A9.out).mono ?_); rintro e w' ⟨rfl, ⟨nd, rfl⟩⟩; (try first | exact ⟨rfl, _, World.drewN_drewN _ _ _⟩ | exact ⟨rfl, _, Eq.trans (World.drewN_drewN _ _ _) (congrArg (World.drewN _) (Nat.add_assoc _ _ _))⟩))))
  go_ret
  exact ⟨by first | rfl | (simp; done) | (simp [*]; done), by repeat (first | exact ap_.refl _ | apply ap_.step)⟩
 subst c10
 have H1 : ((ao_.f ((al_ l0 0).f3) 1 (wrap64 (a2 - ((al_ l0 0).f1)))).bind fun t110 => (some t110)) = some r := by rw [if_pos rfl] at H; exact H
 clear H
 have H := H1
 clear H1
 replace H := Option.bind_eq_some_iff.mp H
 obtain ⟨t110, A110, H⟩ := H
 (try dsimp only at H)
 have A11 := Aside0.mk A110
 clear A110
 obtain rfl := Option.some.inj H
 have p101 : 0 ≤ (0 : Int) := (by omega)
 have q101 : 0 < (l0.length : Int) := of_decide_eq_true (by assumption)
 obtain ⟨ad101, e101, hx101_0, hx101_1, hx101_2, hx101_3⟩ := ck_ HR0.out 0 p101 q101
 cases e101
 have qi101 : (0 < l0.length) = True := eq_true (by omega)
 (try simp only [Int.toNat_zero, Nat.zero_mul, Addr.add_zero'] at hx101_0 hx101_1)
 (try simp only [Int.toNat_zero, Nat.zero_mul, Addr.add_zero'] at hx101_2 hx101_3)
 replace p101 := eq_true p101
 replace q101 := eq_true q101
 have p103 : 0 ≤ (0 : Int) := (by omega)
 have q103 : 0 < (l0.length : Int) := of_decide_eq_true (by assumption)
 obtain ⟨ad103, e103, hx103_0, hx103_1, hx103_2, hx103_3⟩ := ck_ HR0.out 0 p103 q103
 obtain rfl : ad101 = ad103 := (by injection e103)
 have qi103 : (0 < l0.length) = True := eq_true (by omega)
 (try simp only [Int.toNat_zero, Nat.zero_mul, Addr.add_zero'] at hx103_0 hx103_1)
 (try simp only [Int.toNat_zero, Nat.zero_mul, Addr.add_zero'] at hx103_2 hx103_3)
 replace p103 := eq_true p103
 replace q103 := eq_true q103
 have p105 : 0 ≤ (0 : Int) := (by omega)
 have q105 : 0 < (l0.length : Int) := of_decide_eq_true (by assumption)
 obtain ⟨ad105, e105, hx105_0, hx105_1, hx105_2, hx105_3⟩ := ck_ HR0.out 0 p105 q105
 obtain rfl : ad101 = ad105 := (by injection e105)
 have qi105 : (0 < l0.length) = True := eq_true (by omega)
 (try simp only [Int.toNat_zero, Nat.zero_mul, Addr.add_zero'] at hx105_0 hx105_1)
 (try simp only [Int.toNat_zero, Nat.zero_mul, Addr.add_zero'] at hx105_2 hx105_3)
 replace p105 := eq_true p105
 replace q105 := eq_true q105
 have p106 : 0 ≤ (0 : Int) := (by omega)
 have q106 : 0 < (l0.length : Int) := of_decide_eq_true (by assumption)
 obtain ⟨ad106, e106, hx106_0, hx106_1, hx106_2, hx106_3⟩ := ck_ HR0.out 0 p106 q106
 obtain rfl : ad101 = ad106 := (by injection e106)
 have qi106 : (0 < l0.length) = True := eq_true (by omega)
 (try simp only [Int.toNat_zero, Nat.zero_mul, Addr.add_zero'] at hx106_0 hx106_1)
 (try simp only [Int.toNat_zero, Nat.zero_mul, Addr.add_zero'] at hx106_2 hx106_3)
 replace p106 := eq_true p106
 replace q106 := eq_true q106
 have p108 : 0 ≤ (0 : Int) := (by omega)
 have q108 : 0 < (l0.length : Int) := of_decide_eq_true (by assumption)
 obtain ⟨ad108, e108, hx108_0, hx108_1, hx108_2, hx108_3⟩ := ck_ HR0.out 0 p108 q108
 obtain rfl : ad101 = ad108 := (by injection e108)
 have qi108 : (0 < l0.length) = True := eq_true (by omega)
 (try simp only [Int.toNat_zero, Nat.zero_mul, Addr.add_zero'] at hx108_0 hx108_1)
 (try simp only [Int.toNat_zero, Nat.zero_mul, Addr.add_zero'] at hx108_2 hx108_3)
 replace p108 := eq_true p108
 replace q108 := eq_true q108
 have p109 : 0 ≤ (0 : Int) := (by omega)
 have q109 : 0 < (l0.length : Int) := of_decide_eq_true (by assumption)
 obtain ⟨ad109, e109, hx109_0, hx109_1, hx109_2, hx109_3⟩ := ck_ HR0.out 0 p109 q109
 obtain rfl : ad101 = ad109 := (by injection e109)
 have qi109 : (0 < l0.length) = True := eq_true (by omega)
 (try simp only [Int.toNat_zero, Nat.zero_mul, Addr.add_zero'] at hx109_0 hx109_1)
 (try simp only [Int.toNat_zero, Nat.zero_mul, Addr.add_zero'] at hx109_2 hx109_3)
 replace p109 := eq_true p109
 replace q109 := eq_true q109
 go_enter Tryz.func46, Tryz.ntmps46
 go_wp2_with (first | (go_at_call 45; (with_reducible refine (ao_.calls ((al_ l0 0).f0) 0 a1 true _ A5.out).mono ?_); rintro e w' ⟨rfl, ⟨nd, rfl⟩⟩; (try first | exact ⟨rfl, _, World.drewN_drewN _ _ _⟩ | exact ⟨rfl, _, Eq.trans (World.drewN_drewN _ _ _) (congrArg (World.drewN _) (Nat.add_assoc _ _ _))⟩)) | (go_at_call 45; (with_reducible refine (ao_.calls ((al_ l0 0).f1) 0 a2 true _ A7.out).mono ?_); rintro e w' ⟨rfl, ⟨nd, rfl⟩⟩; (try first | exact ⟨rfl, _, World.drewN_drewN _ _ _⟩ | exact ⟨rfl, _, Eq.trans (World.drewN_drewN _ _ _) (congrArg (World.drewN _) (Nat.add_assoc _ _ _))⟩)) | (go_at_call 45; (with_reducible refine (ao_.calls ((al_ l0 0).f2) 1 (wrap64 (a1 - ((al_ l0 0).f0))) true _ A9.out).mono ?_); rintro e w' ⟨rfl, ⟨nd, rfl⟩⟩; (try first | exact ⟨rfl, _, World.drewN_drewN _ _ _⟩ | exact ⟨rfl, _, Eq.trans (World.drewN_drewN _ _ _) (congrArg (World.drewN _) (Nat.add_assoc _ _ _))⟩)) | (go_at_call 45; (with_reducible refine (ao_.calls ((al_ l0 0).f3) 1 (wrap64 (a2 - ((al_ l0 0).f1))) t110 _ A11.out).mono ?_); rintro e w' ⟨rfl, ⟨nd, rfl⟩⟩; (try first | exact ⟨rfl, _, World.drewN_drewN _ _ _⟩ | exact ⟨rfl, _, Eq.trans (World.drewN_drewN _ _ _) (congrArg (World.drewN _) (Nat.add_assoc _ _ _))⟩)))
 repeat (go_quiet (first | (go_at_call 45; (with_reducible refine (ao_.calls ((al_ l0 0).f0) 0 a1 true _ A5.out).mono ?_); rintro e w' ⟨rfl, ⟨nd, rfl⟩⟩; (try first | exact ⟨rfl, _, World.drewN_drewN _ _ _⟩ | exact ⟨rfl, _, Eq.trans (World.drewN_drewN _ _ _) (congrArg (World.drewN _) (Nat.add_assoc _ _ _))⟩)) | (go_at_call 45; (with_reducible refine (ao_.calls ((al_ l0 0).f1) 0 a2 true _ A7.out).mono ?_); rintro e w' ⟨rfl, ⟨nd, rfl⟩⟩; (try first | exact ⟨rfl, _, World.drewN_drewN _ _ _⟩ | exact ⟨rfl, _, Eq.trans (World.drewN_drewN _ _ _) (congrArg (World.drewN _) (Nat.add_assoc _ _ _))⟩)) | (go_at_call 45; (with_reducible refine (ao_.calls ((al_ l0 0).f2) 1 (wrap64 (a1 - ((al_ l0 0).f0))) true _ A9.out).mono ?_); rintro e w' ⟨rfl, ⟨nd, rfl⟩⟩; (try first | exact ⟨rfl, _, World.drewN_drewN _ _ _⟩ | exact ⟨rfl, _, Eq.trans (World.drewN_drewN _ _ _) (congrArg (World.drewN _) (Nat.add_assoc _ _ _))⟩)) | (go_at_call 45; (with_reducible refine (ao_.calls ((al_ l0 0).f3) 1 (wrap64 (a2 - ((al_ l0 0).f1))) t110 _ A11.out).mono ?_); rintro e w' ⟨rfl, ⟨nd, rfl⟩⟩; (try first | exact ⟨rfl, _, World.drewN_drewN _ _ _⟩ | exact ⟨rfl, _, Eq.trans (World.drewN_drewN _ _ _) (congrArg (World.drewN _) (Nat.add_assoc _ _ _))⟩))); try go_wp2_with (first | (go_at_call 45; (with_reducible refine (ao_.calls ((al_ l0 0).f0) 0 a1 true _ A5.out).mono ?_); rintro e w' ⟨rfl, ⟨nd, rfl⟩⟩; (try first | exact ⟨rfl, _, World.drewN_drewN _ _ _⟩ | exact ⟨rfl, _, Eq.trans (World.drewN_drewN _ _ _) (congrArg (World.drewN _) (Nat.add_assoc _ _ _))⟩)) | (go_at_call 45; (with_reducible refine (ao_.calls ((al_ l0 0).f1) 0 a2 true _ A7.out).mono ?_); rintro e w' ⟨rfl, ⟨nd, rfl⟩⟩; (try first | exact ⟨rfl, _, World.drewN_drewN _ _ _⟩ | exact ⟨rfl, _, Eq.trans (World.drewN_drewN _ _ _) (congrArg (World.drewN _) (Nat.add_assoc _ _ _))⟩)) | (go_at_call 45; (with_reducible refine (ao_.calls ((al_ l0 0).f2) 1 (wrap64 (a1 - ((al_ l0 0).f0))) true _ A9.out).mono ?_); rintro e w' ⟨rfl, ⟨nd, rfl⟩⟩; (try first | exact ⟨rfl, _, World.drewN_drewN _ _ _⟩ | exact ⟨rfl, _, Eq.trans (World.drewN_drewN _ _ _) (congrArg (World.drewN _) (Nat.add_assoc _ _ _))⟩)) | (go_at_call 45; (with_reducible refine (ao_.calls ((al_ l0 0).f3) 1 (wrap64 (a2 - ((al_ l0 0).f1))) t110 _ A11.out).mono ?_); rintro e w' ⟨rfl, ⟨nd, rfl⟩⟩; (try first | exact ⟨rfl, _, World.drewN_drewN _ _ _⟩ | exact ⟨rfl, _, Eq.trans (World.drewN_drewN _ _ _) (congrArg (World.drewN _) (Nat.add_assoc _ _ _))⟩))))
 go_ret
 exact ⟨by first | rfl | (simp; done) | (simp [*]; done), by repeat (first | exact ap_.refl _ | apply ap_.step)⟩
mutual
def as_.j0 : Nat → List (S43) → Bool → Option (Bool)
 | 0, _, _ => none
 | k + 1, x0, x32 => if x32 = true then (some false) else (if 0 < (x0.length : Int) then ((ao_.f ((ab_ x0 0).f4) 10 20000).bind fun t110 => (if t110 = true then ((ao_.f ((ab_ x0 0).f5) 10 20000).bind fun t112 => (if t112 = true then (as_.j1 k x0 (decide ((((ab_ x0 0).f6).length : Int) > 6))) else (as_.j1 k x0 true))) else (as_.j1 k x0 true))) else (none))
def as_.j1 : Nat → List (S43) → Bool → Option (Bool)
 | 0, _, _ => none
 | k + 1, x0, x54 => if x54 = true then (some false) else (as_.l0 k x0 0)
def as_.l0 : Nat → List (S43) → Int → Option (Bool)
 | 0, _, _ => none
 | k + 1, x0, x3 => if 0 < (x0.length : Int) then (if x3 < (((ab_ x0 0).f6).length : Int) then (if 0 ≤ x3 then ((cB_.f [al_ ((ab_ x0 0).f6) x3] ((ab_ x0 0).f4) ((ab_ x0 0).f5)).bind fun t119 => (if t119 = true then (as_.l0 k x0 (wrap64 (x3 + 1))) else (some false))) else (none)) else (some true)) else (none)
end
def as_.f (k : Nat) (l0 : List (S43)) : Option (Bool) := if 0 < (l0.length : Int) then ((aq_.f k ((ab_ l0 0).f0)).bind fun t102 => (if t102 = true then ((aq_.f k ((ab_ l0 0).f1)).bind fun t104 => (if t104 = true then ((ao_.f ((ab_ l0 0).f2) 0 999).bind fun t106 => (if t106 = true then ((bp_.f k [(ab_ l0 0).f3]).bind fun t108 => (as_.j0 k l0 (!t108))) else (as_.j0 k l0 true))) else (as_.j0 k l0 true))) else (as_.j0 k l0 true))) else (none)
set_option maxHeartbeats 8000000 in
set_option maxRecDepth 100000 in
theorem as_.calls (k : Nat) (A0 : Option Addr) (l0 : List (S43)) (r : Bool) (w : World) (hr0 : Kd.C k43 w A0 l0.length l0) (h : as_.f k l0 = some r) :
  Calls Tryz.prog 31 #[.pointer A0] w fun e w' => e = .returned (.bool r) ∧ Below w.heap.size w w' := by
 have HR0 := Aside0.mk hr0
 clear hr0
 have HB := Aside0.mk (Below.refl w.heap.size w)
 have H : (if 0 < (l0.length : Int) then ((aq_.f k ((ab_ l0 0).f0)).bind fun t102 => (if t102 = true then ((aq_.f k ((ab_ l0 0).f1)).bind fun t104 => (if t104 = true then ((ao_.f ((ab_ l0 0).f2) 0 999).bind fun t106 => (if t106 = true then ((bp_.f k [(ab_ l0 0).f3]).bind fun t108 => (as_.j0 k l0 (!t108))) else (as_.j0 k l0 true))) else (as_.j0 k l0 true))) else (as_.j0 k l0 true))) else (none)) = some r := h
 clear h
 have HC2 := Aside0.mk H
 clear H
 go_enter Tryz.func31, Tryz.ntmps31
 go_upto_region 1 with (fail)
 repeat (go_quiet (fail); go_upto_region 1 with (fail))
 go_cut [32] (fun v32 wc => ∃ (kq : Nat) (x32_1 : Bool), v32 = .bool x32_1 ∧ Aside0 (as_.j0 kq l0 x32_1 = some r) ∧ Aside0 (kq ≤ k) ∧ Aside0 (Below w.heap.size w wc))
 case first =>
  have H := HC2.out
  clear HC2
  by_cases c3 : 0 < (l0.length : Int)
  rotate_left
  ·rw [if_neg c3] at H
   exact absurd H (by simp)
  rw [if_pos c3] at H
  have c3b0 : decide (0 < (l0.length : Int)) = true := decide_eq_true c3
  have c3b1 : decide (0 < l0.length) = true := decide_eq_true (by omega)
  clear c3
  (first | rw [c3b0] | (simp only [i64_w, i32_w]; rw [c3b0]) | (simp only [c3b1, Bool.not_true, Bool.not_false]) | (simp only [c3b0, Bool.not_true, Bool.not_false]) | skip)
  replace H := Option.bind_eq_some_iff.mp H
  obtain ⟨t102, A40, H⟩ := H
  (try dsimp only at H)
  have A4 := Aside0.mk A40
  clear A40
  by_cases c5 : t102 = true
  rotate_left
  ·replace c5 := Bool.eq_false_iff.mpr c5
   subst c5
   have H1 : (as_.j0 k l0 true) = some r := by rw [if_neg (show ¬ (false = true) by decide)] at H; exact H
   clear H
   have H := H1
   clear H1
   have H' := Aside0.mk H
   clear H
   have p101 : 0 ≤ (0 : Int) := (by omega)
   have q101 : 0 < (l0.length : Int) := of_decide_eq_true (by assumption)
   obtain ⟨ad101, A101_8, c101_8, e101, hx101_0, hx101_1, hx101_2, hx101_3, hx101_4, hx101_5, hx101_6, hx101_7, hx101_8, hl101_8, hi101_8⟩ := bS_ HR0.out 0 p101 q101
   cases e101
   have qi101 : (0 < l0.length) = True := eq_true (by omega)
   (try simp only [Int.toNat_zero, Nat.zero_mul, Addr.add_zero'] at hx101_0 hx101_1)
   (try simp only [Int.toNat_zero, Nat.zero_mul, Addr.add_zero'] at hx101_2 hx101_3)
   (try simp only [Int.toNat_zero, Nat.zero_mul, Addr.add_zero'] at hx101_4 hx101_5)
   (try simp only [Int.toNat_zero, Nat.zero_mul, Addr.add_zero'] at hx101_6 hx101_7 hx101_8)
   replace hx101_0 := bu_ HB.out hx101_0
   replace hx101_1 := bu_ HB.out hx101_1
   replace hx101_2 := bu_ HB.out hx101_2
   replace hx101_3 := bu_ HB.out hx101_3
   replace hx101_4 := bu_ HB.out hx101_4
   replace hx101_5 := bu_ HB.out hx101_5
   replace hx101_6 := bu_ HB.out hx101_6
   replace hx101_7 := bu_ HB.out hx101_7
   replace hx101_8 := bu_ HB.out hx101_8
   have HR101_8 := Aside0.mk hi101_8
   have HC101_8 := Aside0.mk hl101_8
   clear hi101_8 hl101_8
   replace p101 := eq_true p101
   replace q101 := eq_true q101
   go_wp2_with (first | (go_at_call 42; (with_reducible refine (aq_.calls k ((ab_ l0 0).f0) false _ A4.out).mono ?_); rintro e w' ⟨rfl, ⟨nd, rfl⟩⟩; (try first | exact ⟨rfl, _, World.drewN_drewN _ _ _⟩ | exact ⟨rfl, _, Eq.trans (World.drewN_drewN _ _ _) (congrArg (World.drewN _) (Nat.add_assoc _ _ _))⟩)))
   repeat (go_quiet (first | (go_at_call 42; (with_reducible refine (aq_.calls k ((ab_ l0 0).f0) false _ A4.out).mono ?_); rintro e w' ⟨rfl, ⟨nd, rfl⟩⟩; (try first | exact ⟨rfl, _, World.drewN_drewN _ _ _⟩ | exact ⟨rfl, _, Eq.trans (World.drewN_drewN _ _ _) (congrArg (World.drewN _) (Nat.add_assoc _ _ _))⟩))); try go_wp2_with (first | (go_at_call 42; (with_reducible refine (aq_.calls k ((ab_ l0 0).f0) false _ A4.out).mono ?_); rintro e w' ⟨rfl, ⟨nd, rfl⟩⟩; (try first | exact ⟨rfl, _, World.drewN_drewN _ _ _⟩ | exact ⟨rfl, _, Eq.trans (World.drewN_drewN _ _ _) (congrArg (World.drewN _) (Nat.add_assoc _ _ _))⟩))))
   go_meet
   case rel => exact ⟨_, (true), (by first | rfl | (simp; done) | (simp [*]; done)), H', ⟨by first | omega | exact Nat.le_refl _⟩, ⟨bz HB.out⟩⟩
  subst c5
  have H1 : ((aq_.f k ((ab_ l0 0).f1)).bind fun t104 => (if t104 = true then ((ao_.f ((ab_ l0 0).f2) 0 999).bind fun t106 => (if t106 = true then ((bp_.f k [(ab_ l0 0).f3]).bind fun t108 => (as_.j0 k l0 (!t108))) else (as_.j0 k l0 true))) else (as_.j0 k l0 true))) = some r := by rw [if_pos rfl] at H; exact H
  clear H
  have H := H1
  clear H1
  replace H := Option.bind_eq_some_iff.mp H
  obtain ⟨t104, A60, H⟩ := H
  (try dsimp only at H)
  have A6 := Aside0.mk A60
  clear A60
  by_cases c7 : t104 = true
  rotate_left
  ·replace c7 := Bool.eq_false_iff.mpr c7
   subst c7
   have H1 : (as_.j0 k l0 true) = some r := by rw [if_neg (show ¬ (false = true) by decide)] at H; exact H
   clear H
   have H := H1
   clear H1
   have H' := Aside0.mk H
   clear H
   have p101 : 0 ≤ (0 : Int) := (by omega)
   have q101 : 0 < (l0.length : Int) := of_decide_eq_true (by assumption)
   obtain ⟨ad101, A101_8, c101_8, e101, hx101_0, hx101_1, hx101_2, hx101_3, hx101_4, hx101_5, hx101_6, hx101_7, hx101_8, hl101_8, hi101_8⟩ := bS_ HR0.out 0 p101 q101
   cases e101
   have qi101 : (0 < l0.length) = True := eq_true (by omega)
   (try simp only [Int.toNat_zero, Nat.zero_mul, Addr.add_zero'] at hx101_0 hx101_1)
   (try simp only [Int.toNat_zero, Nat.zero_mul, Addr.add_zero'] at hx101_2 hx101_3)
   (try simp only [Int.toNat_zero, Nat.zero_mul, Addr.add_zero'] at hx101_4 hx101_5)
   (try simp only [Int.toNat_zero, Nat.zero_mul, Addr.add_zero'] at hx101_6 hx101_7 hx101_8)
   replace hx101_0 := bu_ HB.out hx101_0
   replace hx101_1 := bu_ HB.out hx101_1
   replace hx101_2 := bu_ HB.out hx101_2
   replace hx101_3 := bu_ HB.out hx101_3
   replace hx101_4 := bu_ HB.out hx101_4
   replace hx101_5 := bu_ HB.out hx101_5
   replace hx101_6 := bu_ HB.out hx101_6
   replace hx101_7 := bu_ HB.out hx101_7
   replace hx101_8 := bu_ HB.out hx101_8
   have HR101_8 := Aside0.mk hi101_8
   have HC101_8 := Aside0.mk hl101_8
   clear hi101_8 hl101_8
   replace p101 := eq_true p101
   replace q101 := eq_true q101
   have p103 : 0 ≤ (0 : Int) := (by omega)
   have q103 : 0 < (l0.length : Int) := of_decide_eq_true (by assumption)
   obtain ⟨ad103, A103_8, c103_8, e103, hx103_0, hx103_1, hx103_2, hx103_3, hx103_4, hx103_5, hx103_6, hx103_7, hx103_8, hl103_8, hi103_8⟩ := bS_ HR0.out 0 p103 q103
   obtain rfl : ad101 = ad103 := (by injection e103)
   have qi103 : (0 < l0.length) = True := eq_true (by omega)
   (try simp only [Int.toNat_zero, Nat.zero_mul, Addr.add_zero'] at hx103_0 hx103_1)
   (try simp only [Int.toNat_zero, Nat.zero_mul, Addr.add_zero'] at hx103_2 hx103_3)
   (try simp only [Int.toNat_zero, Nat.zero_mul, Addr.add_zero'] at hx103_4 hx103_5)
   (try simp only [Int.toNat_zero, Nat.zero_mul, Addr.add_zero'] at hx103_6 hx103_7 hx103_8)
   replace hx103_0 := bu_ HB.out hx103_0
   replace hx103_1 := bu_ HB.out hx103_1
   replace hx103_2 := bu_ HB.out hx103_2
   replace hx103_3 := bu_ HB.out hx103_3
   replace hx103_4 := bu_ HB.out hx103_4
   replace hx103_5 := bu_ HB.out hx103_5
   replace hx103_6 := bu_ HB.out hx103_6
   replace hx103_7 := bu_ HB.out hx103_7
   replace hx103_8 := bu_ HB.out hx103_8
   have HR103_8 := Aside0.mk hi103_8
   have HC103_8 := Aside0.mk hl103_8
   clear hi103_8 hl103_8
   replace p103 := eq_true p103
   replace q103 := eq_true q103
   have ea_ := Option.some.inj (hx101_8.symm.trans hx103_8)
   injection ea_ with ea_ en_ ec_
   (try subst ea_)
   (try subst ec_)
   (try clear ea_ ec_)
   clear en_
   go_wp2_with (first | (go_at_call 42; (with_reducible refine (aq_.calls k ((ab_ l0 0).f0) true _ A4.out).mono ?_); rintro e w' ⟨rfl, ⟨nd, rfl⟩⟩; (try first | exact ⟨rfl, _, World.drewN_drewN _ _ _⟩ | exact ⟨rfl, _, Eq.trans (World.drewN_drewN _ _ _) (congrArg (World.drewN _) (Nat.add_assoc _ _ _))⟩)) | (go_at_call 42; (with_reducible refine (aq_.calls k ((ab_ l0 0).f1) false _ A6.out).mono ?_); rintro e w' ⟨rfl, ⟨nd, rfl⟩⟩; (try first | exact ⟨rfl, _, World.drewN_drewN _ _ _⟩ | exact ⟨rfl, _, Eq.trans (World.drewN_drewN _ _ _) (congrArg (World.drewN _) (Nat.add_assoc _ _ _))⟩)))
   repeat (go_quiet (first | (go_at_call 42; (with_reducible refine (aq_.calls k ((ab_ l0 0).f0) true _ A4.out).mono ?_); rintro e w' ⟨rfl, ⟨nd, rfl⟩⟩; (try first | exact ⟨rfl, _, World.drewN_drewN _ _ _⟩ | exact ⟨rfl, _, Eq.trans (World.drewN_drewN _ _ _) (congrArg (World.drewN _) (Nat.add_assoc _ _ _))⟩)) | (go_at_call 42; (with_reducible refine (aq_.calls k ((ab_ l0 0).f1) false _ A6.out).mono ?_); rintro e w' ⟨rfl, ⟨nd, rfl⟩⟩; (try first | exact ⟨rfl, _, World.drewN_drewN _ _ _⟩ | exact ⟨rfl, _, Eq.trans (World.drewN_drewN _ _ _) (congrArg (World.drewN _) (Nat.add_assoc _ _ _))⟩))); try go_wp2_with (first | (go_at_call 42; (with_reducible refine (aq_.calls k ((ab_ l0 0).f0) true _ A4.out).mono ?_); rintro e w' ⟨rfl, ⟨nd, rfl⟩⟩; (try first | exact ⟨rfl, _, World.drewN_drewN _ _ _⟩ | exact ⟨rfl, _, Eq.trans (World.drewN_drewN _ _ _) (congrArg (World.drewN _) (Nat.add_assoc _ _ _))⟩)) | (go_at_call 42; (with_reducible refine (aq_.calls k ((ab_ l0 0).f1) false _ A6.out).mono ?_); rintro e w' ⟨rfl, ⟨nd, rfl⟩⟩; (try first | exact ⟨rfl, _, World.drewN_drewN _ _ _⟩ | exact ⟨rfl, _, Eq.trans (World.drewN_drewN _ _ _) (congrArg (World.drewN _) (Nat.add_assoc _ _ _))⟩))))
   go_meet
   case rel => exact ⟨_, (true), (by first | rfl | (simp; done) | (simp [*]; done)), H', ⟨by first | omega | exact Nat.le_refl _⟩, ⟨bz HB.out⟩⟩
  subst c7
  have H1 : ((ao_.f ((ab_ l0 0).f2) 0 999).bind fun t106 => (if t106 = true then ((bp_.f k [(ab_ l0 0).f3]).bind fun t108 => (as_.j0 k l0 (!t108))) else (as_.j0 k l0 true))) = some r := by rw [if_pos rfl] at H; exact H
  clear H
  have H := H1
  clear H1
  replace H := Option.bind_eq_some_iff.mp H
  obtain ⟨t106, A80, H⟩ := H
  (try dsimp only at H)
  have A8 := Aside0.mk A80
  clear A80
  by_cases c9 : t106 = true
  rotate_left
  ·replace c9 := Bool.eq_false_iff.mpr c9
   subst c9
   have H1 : (as_.j0 k l0 true) = some r := by rw [if_neg (show ¬ (false = true) by decide)] at H; exact H
   clear H
   have H := H1
   clear H1
   have H' := Aside0.mk H
   clear H
   have p101 : 0 ≤ (0 : Int) := (by omega)
   have q101 : 0 < (l0.length : Int) := of_decide_eq_true (by assumption)
   obtain ⟨ad101, A101_8, c101_8, e101, hx101_0, hx101_1, hx101_2, hx101_3, hx101_4, hx101_5, hx101_6, hx101_7, hx101_8, hl101_8, hi101_8⟩ := bS_ HR0.out 0 p101 q101
   cases e101
   have qi101 : (0 < l0.length) = True := eq_true (by omega)
   (try simp only [Int.toNat_zero, Nat.zero_mul, Addr.add_zero'] at hx101_0 hx101_1)
   (try simp only [Int.toNat_zero, Nat.zero_mul, Addr.add_zero'] at hx101_2 hx101_3)
   (try simp only [Int.toNat_zero, Nat.zero_mul, Addr.add_zero'] at hx101_4 hx101_5)
   (try simp only [Int.toNat_zero, Nat.zero_mul, Addr.add_zero'] at hx101_6 hx101_7 hx101_8)
   replace hx101_0 := bu_ HB.out hx101_0
   replace hx101_1 := bu_ HB.out hx101_1
   replace hx101_2 := bu_ HB.out hx101_2
   replace hx101_3 := bu_ HB.out hx101_3
   replace hx101_4 := bu_ HB.out hx101_4
   replace hx101_5 := bu_ HB.out hx101_5
   replace hx101_6 := bu_ HB.out hx101_6
   replace hx101_7 := bu_ HB.out hx101_7
   replace hx101_8 := bu_ HB.out hx101_8
   have HR101_8 := Aside0.mk hi101_8
   have HC101_8 := Aside0.mk hl101_8
   clear hi101_8 hl101_8
   replace p101 := eq_true p101
   replace q101 := eq_true q101
   have p103 : 0 ≤ (0 : Int) := (by omega)
   have q103 : 0 < (l0.length : Int) := of_decide_eq_true (by assumption)
   obtain ⟨ad103, A103_8, c103_8, e103, hx103_0, hx103_1, hx103_2, hx103_3, hx103_4, hx103_5, hx103_6, hx103_7, hx103_8, hl103_8, hi103_8⟩ := bS_ HR0.out 0 p103 q103
   obtain rfl : ad101 = ad103 := (by injection e103)
   have qi103 : (0 < l0.length) = True := eq_true (by omega)
   (try simp only [Int.toNat_zero, Nat.zero_mul, Addr.add_zero'] at hx103_0 hx103_1)
   (try simp only [Int.toNat_zero, Nat.zero_mul, Addr.add_zero'] at hx103_2 hx103_3)
   (try simp only [Int.toNat_zero, Nat.zero_mul, Addr.add_zero'] at hx103_4 hx103_5)
   (try simp only [Int.toNat_zero, Nat.zero_mul, Addr.add_zero'] at hx103_6 hx103_7 hx103_8)
   replace hx103_0 := bu_ HB.out hx103_0
   replace hx103_1 := bu_ HB.out hx103_1
   replace hx103_2 := bu_ HB.out hx103_2
   replace hx103_3 := bu_ HB.out hx103_3
   replace hx103_4 := bu_ HB.out hx103_4
   replace hx103_5 := bu_ HB.out hx103_5
   replace hx103_6 := bu_ HB.out hx103_6
   replace hx103_7 := bu_ HB.out hx103_7
   replace hx103_8 := bu_ HB.out hx103_8
   have HR103_8 := Aside0.mk hi103_8
   have HC103_8 := Aside0.mk hl103_8
   clear hi103_8 hl103_8
   replace p103 := eq_true p103
   replace q103 := eq_true q103
   have ea_ := Option.some.inj (hx101_8.symm.trans hx103_8)
   injection ea_ with ea_ en_ ec_
   (try subst ea_)
   (try subst ec_)
   (try clear ea_ ec_)
   clear en_
   have p105 : 0 ≤ (0 : Int) := (by omega)
   have q105 : 0 < (l0.length : Int) := of_decide_eq_true (by assumption)
   obtain ⟨ad105, A105_8, c105_8, e105, hx105_0, hx105_1, hx105_2, hx105_3, hx105_4, hx105_5, hx105_6, hx105_7, hx105_8, hl105_8, hi105_8⟩ := bS_ HR0.out 0 p105 q105
   obtain rfl : ad101 = ad105 := (by injection e105)
   have qi105 : (0 < l0.length) = True := eq_true (by omega)
   (try simp only [Int.toNat_zero, Nat.zero_mul, Addr.add_zero'] at hx105_0 hx105_1)
   (try simp only [Int.toNat_zero, Nat.zero_mul, Addr.add_zero'] at hx105_2 hx105_3)
   (try simp only [Int.toNat_zero, Nat.zero_mul, Addr.add_zero'] at hx105_4 hx105_5)
   (try simp only [Int.toNat_zero, Nat.zero_mul, Addr.add_zero'] at hx105_6 hx105_7 hx105_8)
   replace hx105_0 := bu_ HB.out hx105_0
   replace hx105_1 := bu_ HB.out hx105_1
   replace hx105_2 := bu_ HB.out hx105_2
   replace hx105_3 := bu_ HB.out hx105_3
   replace hx105_4 := bu_ HB.out hx105_4
   replace hx105_5 := bu_ HB.out hx105_5
   replace hx105_6 := bu_ HB.out hx105_6
   replace hx105_7 := bu_ HB.out hx105_7
   replace hx105_8 := bu_ HB.out hx105_8
   have HR105_8 := Aside0.mk hi105_8
   have HC105_8 := Aside0.mk hl105_8
   clear hi105_8 hl105_8
   replace p105 := eq_true p105
   replace q105 := eq_true q105
   have ea_ := Option.some.inj (hx101_8.symm.trans hx105_8)
   injection ea_ with ea_ en_ ec_
   (try subst ea_)
   (try subst ec_)
   (try clear ea_ ec_)
   clear en_
   go_wp2_with (first | (go_at_call 42; (with_reducible refine (aq_.calls k ((ab_ l0 0).f0) true _ A4.out).mono ?_); rintro e w' ⟨rfl, ⟨nd, rfl⟩⟩; (try first | exact ⟨rfl, _, World.drewN_drewN _ _ _⟩ | exact ⟨rfl, _, Eq.trans (World.drewN_drewN _ _ _) (congrArg (World.drewN _) (Nat.add_assoc _ _ _))⟩)) | (go_at_call 42; (with_reducible refine (aq_.calls k ((ab_ l0 0).f1) true _ A6.out).mono ?_); rintro e w' ⟨rfl, ⟨nd, rfl⟩⟩; (try first | exact ⟨rfl, _, World.drewN_drewN _ _ _⟩ | exact ⟨rfl, _, Eq.trans (World.drewN_drewN _ _ _) (congrArg (World.drewN _) (Nat.add_assoc _ _ _))⟩)) | (go_at_call 45; (with_reducible refine (ao_.calls ((ab_ l0 0).f2) 0 999 false _ A8.out).mono ?_); rintro e w' ⟨rfl, ⟨nd, rfl⟩⟩; (try first | exact ⟨rfl, _, World.drewN_drewN _ _ _⟩ | exact ⟨rfl, _, Eq.trans (World.drewN_drewN _ _ _) (congrArg (World.drewN _) (Nat.add_assoc _ _ _))⟩)))
   repeat (go_quiet (first | (go_at_call 42; (with_reducible refine (aq_.calls k ((ab_ l0 0).f0) true _ A4.out).mono ?_); rintro e w' ⟨rfl, ⟨nd, rfl⟩⟩; (try first | exact ⟨rfl, _, World.drewN_drewN _ _ _⟩ | exact ⟨rfl, _, Eq.trans (World.drewN_drewN _ _ _) (congrArg (World.drewN _) (Nat.add_assoc _ _ _))⟩)) | (go_at_call 42; (with_reducible refine (aq_.calls k ((ab_ l0 0).f1) true _ A6.out).mono ?_); rintro e w' ⟨rfl, ⟨nd, rfl⟩⟩; (try first | exact ⟨rfl, _, World.drewN_drewN _ _ _⟩ | exact ⟨rfl, _, Eq.trans (World.drewN_drewN _ _ _) (congrArg (World.drewN _) (Nat.add_assoc _ _ _))⟩)) | (go_at_call 45; (with_reducible refine (ao_.calls ((ab_ l0 0).f2) 0 999 false _ A8.out).mono ?_); rintro e w' ⟨rfl, ⟨nd, rfl⟩⟩; (try first | exact ⟨rfl, _, World.drewN_drewN _ _ _⟩ | exact ⟨rfl, _, Eq.trans (World.drewN_drewN _ _ _) (congrArg (World.drewN _) (Nat.add_assoc _ _ _))⟩))); try go_wp2_with (first | (go_at_call 42; (with_reducible refine (aq_.calls k ((ab_ l0 0).f0) true _ A4.out).mono ?_); rintro e w' ⟨rfl, ⟨nd, rfl⟩⟩; (try first | exact ⟨rfl, _, World.drewN_drewN _ _ _⟩ | exact ⟨rfl, _, Eq.trans (World.drewN_drewN _ _ _) (congrArg (World.drewN _) (Nat.add_assoc _ _ _))⟩)) | (go_at_call 42; (with_reducible refine (aq_.calls k ((ab_ l0 0).f1) true _ A6.out).mono ?_); rintro e w' ⟨rfl, ⟨nd, rfl⟩⟩; (try first | exact ⟨rfl, _, World.drewN_drewN _ _ _⟩ | exact ⟨rfl, _, Eq.trans (World.drewN_drewN _ _ _) (congrArg (World.drewN _) (Nat.add_assoc _ _ _))⟩)) | (go_at_call 45; (with_reducible refine (ao_.calls ((ab_ l0 0).f2) 0 999 false _ A8.out).mono ?_); rintro e w' ⟨rfl, ⟨nd, rfl⟩⟩; (try first | exact ⟨rfl, _, World.drewN_drewN _ _ _⟩ | exact ⟨rfl, _, Eq.trans (World.drewN_drewN _ _ _) (congrArg (World.drewN _) (Nat.add_assoc _ _ _))⟩))))
   go_meet
   case rel => exact ⟨_, (true), (by first | rfl | (simp; done) | (simp [*]; done)), H', ⟨by first | omega | exact Nat.le_refl _⟩, ⟨bz HB.out⟩⟩
  subst c9
  have H1 : ((bp_.f k [(ab_ l0 0).f3]).bind fun t108 => (as_.j0 k l0 (!t108))) = some r := by rw [if_pos rfl] at H; exact H
  clear H
  have H := H1
  clear H1
  replace H := Option.bind_eq_some_iff.mp H
  obtain ⟨t108, A100, H⟩ := H
  (try dsimp only at H)
  have A10 := Aside0.mk A100
  clear A100
  have H' := Aside0.mk H
  clear H
  have p101 : 0 ≤ (0 : Int) := (by omega)
  have q101 : 0 < (l0.length : Int) := of_decide_eq_true (by assumption)
  obtain ⟨ad101, A101_8, c101_8, e101, hx101_0, hx101_1, hx101_2, hx101_3, hx101_4, hx101_5, hx101_6, hx101_7, hx101_8, hl101_8, hi101_8⟩ := bS_ HR0.out 0 p101 q101
  cases e101
  have qi101 : (0 < l0.length) = True := eq_true (by omega)
  (try simp only [Int.toNat_zero, Nat.zero_mul, Addr.add_zero'] at hx101_0 hx101_1)
  (try simp only [Int.toNat_zero, Nat.zero_mul, Addr.add_zero'] at hx101_2 hx101_3)
  (try simp only [Int.toNat_zero, Nat.zero_mul, Addr.add_zero'] at hx101_4 hx101_5)
  (try simp only [Int.toNat_zero, Nat.zero_mul, Addr.add_zero'] at hx101_6 hx101_7 hx101_8)
  replace hx101_0 := bu_ HB.out hx101_0
  replace hx101_1 := bu_ HB.out hx101_1
  replace hx101_2 := bu_ HB.out hx101_2
  replace hx101_3 := bu_ HB.out hx101_3
  replace hx101_4 := bu_ HB.out hx101_4
  replace hx101_5 := bu_ HB.out hx101_5
  replace hx101_6 := bu_ HB.out hx101_6
  replace hx101_7 := bu_ HB.out hx101_7
  replace hx101_8 := bu_ HB.out hx101_8
  have HR101_8 := Aside0.mk hi101_8
  have HC101_8 := Aside0.mk hl101_8
  clear hi101_8 hl101_8
  replace p101 := eq_true p101
  replace q101 := eq_true q101
  have p103 : 0 ≤ (0 : Int) := (by omega)
  have q103 : 0 < (l0.length : Int) := of_decide_eq_true (by assumption)
  obtain ⟨ad103, A103_8, c103_8, e103, hx103_0, hx103_1, hx103_2, hx103_3, hx103_4, hx103_5, hx103_6, hx103_7, hx103_8, hl103_8, hi103_8⟩ := bS_ HR0.out 0 p103 q103
  obtain rfl : ad101 = ad103 := (by injection e103)
  have qi103 : (0 < l0.length) = True := eq_true (by omega)
  (try simp only [Int.toNat_zero, Nat.zero_mul, Addr.add_zero'] at hx103_0 hx103_1)
  (try simp only [Int.toNat_zero, Nat.zero_mul, Addr.add_zero'] at hx103_2 hx103_3)
  (try simp only [Int.toNat_zero, Nat.zero_mul, Addr.add_zero'] at hx103_4 hx103_5)
  (try simp only [Int.toNat_zero, Nat.zero_mul, Addr.add_zero'] at hx103_6 hx103_7 hx103_8)
  replace hx103_0 := bu_ HB.out hx103_0
  replace hx103_1 := bu_ HB.out hx103_1
  replace hx103_2 := bu_ HB.out hx103_2
  replace hx103_3 := bu_ HB.out hx103_3
  replace hx103_4 := bu_ HB.out hx103_4
  replace hx103_5 := bu_ HB.out hx103_5
  replace hx103_6 := bu_ HB.out hx103_6
  replace hx103_7 := bu_ HB.out hx103_7
  replace hx103_8 := bu_ HB.out hx103_8
  have HR103_8 := Aside0.mk hi103_8
  have HC103_8 := Aside0.mk hl103_8
  clear hi103_8 hl103_8
  replace p103 := eq_true p103
  replace q103 := eq_true q103
  have ea_ := Option.some.inj (hx101_8.symm.trans hx103_8)
  injection ea_ with ea_ en_ ec_
  (try subst ea_)
  (try subst ec_)
  (try clear ea_ ec_)
  clear en_
  have p105 : 0 ≤ (0 : Int) := (by omega)
  have q105 : 0 < (l0.length : Int) := of_decide_eq_true (by assumption)
  obtain ⟨ad105, A105_8, c105_8, e105, hx105_0, hx105_1, hx105_2, hx105_3, hx105_4, hx105_5, hx105_6, hx105_7, hx105_8, hl105_8, hi105_8⟩ := bS_ HR0.out 0 p105 q105
  obtain rfl : ad101 = ad105 := (by injection e105)
  have qi105 : (0 < l0.length) = True := eq_true (by omega)
  (try simp only [Int.toNat_zero, Nat.zero_mul, Addr.add_zero'] at hx105_0 hx105_1)
  (try simp only [Int.toNat_zero, Nat.zero_mul, Addr.add_zero'] at hx105_2 hx105_3)
  (try simp only [Int.toNat_zero, Nat.zero_mul, Addr.add_zero'] at hx105_4 hx105_5)
  (try simp only [Int.toNat_zero, Nat.zero_mul, Addr.add_zero'] at hx105_6 hx105_7 hx105_8)
  replace hx105_0 := bu_ HB.out hx105_0
  replace hx105_1 := bu_ HB.out hx105_1
  replace hx105_2 := bu_ HB.out hx105_2
  replace hx105_3 := bu_ HB.out hx105_3
  replace hx105_4 := bu_ HB.out hx105_4
  replace hx105_5 := bu_ HB.out hx105_5
  replace hx105_6 := bu_ HB.out hx105_6
  replace hx105_7 := bu_ HB.out hx105_7
  replace hx105_8 := bu_ HB.out hx105_8
  have HR105_8 := Aside0.mk hi105_8
  have HC105_8 := Aside0.mk hl105_8
  clear hi105_8 hl105_8
  replace p105 := eq_true p105
  replace q105 := eq_true q105
  have ea_ := Option.some.inj (hx101_8.symm.trans hx105_8)
  injection ea_ with ea_ en_ ec_
  (try subst ea_)
  (try subst ec_)
  (try clear ea_ ec_)
  clear en_
  have p107 : 0 ≤ (0 : Int) := (by omega)
  have q107 : 0 < (l0.length : Int) := of_decide_eq_true (by assumption)
  obtain ⟨ad107, A107_8, c107_8, e107, hx107_0, hx107_1, hx107_2, hx107_3, hx107_4, hx107_5, hx107_6, hx107_7, hx107_8, hl107_8, hi107_8⟩ := bS_ HR0.out 0 p107 q107
  obtain rfl : ad101 = ad107 := (by injection e107)
  have qi107 : (0 < l0.length) = True := eq_true (by omega)
  (try simp only [Int.toNat_zero, Nat.zero_mul, Addr.add_zero'] at hx107_0 hx107_1)
  (try simp only [Int.toNat_zero, Nat.zero_mul, Addr.add_zero'] at hx107_2 hx107_3)
  (try simp only [Int.toNat_zero, Nat.zero_mul, Addr.add_zero'] at hx107_4 hx107_5)
  (try simp only [Int.toNat_zero, Nat.zero_mul, Addr.add_zero'] at hx107_6 hx107_7 hx107_8)
  replace hx107_0 := bu_ HB.out hx107_0
  replace hx107_1 := bu_ HB.out hx107_1
  replace hx107_2 := bu_ HB.out hx107_2
  replace hx107_3 := bu_ HB.out hx107_3
  replace hx107_4 := bu_ HB.out hx107_4
  replace hx107_5 := bu_ HB.out hx107_5
  replace hx107_6 := bu_ HB.out hx107_6
  replace hx107_7 := bu_ HB.out hx107_7
  replace hx107_8 := bu_ HB.out hx107_8
  have HR107_8 := Aside0.mk hi107_8
  have HC107_8 := Aside0.mk hl107_8
  clear hi107_8 hl107_8
  replace p107 := eq_true p107
  replace q107 := eq_true q107
  have ea_ := Option.some.inj (hx101_8.symm.trans hx107_8)
  injection ea_ with ea_ en_ ec_
  (try subst ea_)
  (try subst ec_)
  (try clear ea_ ec_)
  clear en_
  go_wp2_with (first | (go_at_call 42; (with_reducible refine (aq_.calls k ((ab_ l0 0).f0) true _ A4.out).mono ?_); rintro e w' ⟨rfl, ⟨nd, rfl⟩⟩; (try first | exact ⟨rfl, _, World.drewN_drewN _ _ _⟩ | exact ⟨rfl, _, Eq.trans (World.drewN_drewN _ _ _) (congrArg (World.drewN _) (Nat.add_assoc _ _ _))⟩)) | (go_at_call 42; (with_reducible refine (aq_.calls k ((ab_ l0 0).f1) true _ A6.out).mono ?_); rintro e w' ⟨rfl, ⟨nd, rfl⟩⟩; (try first | exact ⟨rfl, _, World.drewN_drewN _ _ _⟩ | exact ⟨rfl, _, Eq.trans (World.drewN_drewN _ _ _) (congrArg (World.drewN _) (Nat.add_assoc _ _ _))⟩)) | (go_at_call 45; (with_reducible refine (ao_.calls ((ab_ l0 0).f2) 0 999 true _ A8.out).mono ?_); rintro e w' ⟨rfl, ⟨nd, rfl⟩⟩; (try first | exact ⟨rfl, _, World.drewN_drewN _ _ _⟩ | exact ⟨rfl, _, Eq.trans (World.drewN_drewN _ _ _) (congrArg (World.drewN _) (Nat.add_assoc _ _ _))⟩)) | (go_at_call 44; (with_reducible refine (bp_.calls k _ [(ab_ l0 0).f3] t108 _ ?side1 A10.out).mono ?_); (case side1 => exact (RPW.C_fst (RPW.C_snd (RPW.C_snd (RPW.C_snd (RPW.C_iso (RPW.cK_ (ad := ad101) (n := l0.length) (xs := l0) z43 (i := 0) (by first | exact of_eq_true p107 | exact p107 | omega) (by first | exact of_eq_true q107 | exact q107 | omega) (by first | exact (Kd.bU_ HR0.out HB.out) | exact cz (Kd.bU_ HR0.out HB.out))))))))); rintro e w11 ⟨rfl, hb⟩; replace HB := Aside0.mk (ac_ (bz HB.out) hb); (try clear hb)))
  repeat (go_quiet (first | (go_at_call 42; (with_reducible refine (aq_.calls k ((ab_ l0 0).f0) true _ A4.out).mono ?_); rintro e w' ⟨rfl, ⟨nd, rfl⟩⟩; (try first | exact ⟨rfl, _, World.drewN_drewN _ _ _⟩ | exact ⟨rfl, _, Eq.trans (World.drewN_drewN _ _ _) (congrArg (World.drewN _) (Nat.add_assoc _ _ _))⟩)) | (go_at_call 42; (with_reducible refine (aq_.calls k ((ab_ l0 0).f1) true _ A6.out).mono ?_); rintro e w' ⟨rfl, ⟨nd, rfl⟩⟩; (try first | exact ⟨rfl, _, World.drewN_drewN _ _ _⟩ | exact ⟨rfl, _, Eq.trans (World.drewN_drewN _ _ _) (congrArg (World.drewN _) (Nat.add_assoc _ _ _))⟩)) | (go_at_call 45; (with_reducible refine (ao_.calls ((ab_ l0 0).f2) 0 999 true _ A8.out).mono ?_); rintro e w' ⟨rfl, ⟨nd, rfl⟩⟩; (try first | exact ⟨rfl, _, World.drewN_drewN _ _ _⟩ | exact ⟨rfl, _, Eq.trans (World.drewN_drewN _ _ _) (congrArg (World.drewN _) (Nat.add_assoc _ _ _))⟩)) | (go_at_call 44; (with_reducible refine (bp_.calls k _ [(ab_ l0 0).f3] t108 _ ?side1 A10.out).mono ?_); (case side1 => exact (RPW.C_fst (RPW.C_snd (RPW.C_snd (RPW.C_snd (RPW.C_iso (RPW.cK_ (ad := ad101) (n := l0.length) (xs := l0) z43 (i := 0) (by first | exact of_eq_true p107 | exact p107 | omega) (by first | exact of_eq_true q107 | exact q107 | omega) (by first | exact (Kd.bU_ HR0.out HB.out) | exact cz (Kd.bU_ HR0.out HB.out))))))))); rintro e w11 ⟨rfl, hb⟩; replace HB := Aside0.mk (ac_ (bz HB.out) hb); (try clear hb))); try go_wp2_with (first | (go_at_call 42; (with_reducible refine (aq_.calls k ((ab_ l0 0).f0) true _ A4.out).mono ?_); rintro e w' ⟨rfl, ⟨nd, rfl⟩⟩; (try first | exact ⟨rfl, _, World.drewN_drewN _ _ _⟩ | exact ⟨rfl, _, Eq.trans (World.drewN_drewN _ _ _) (congrArg (World.drewN _) (Nat.add_assoc _ _ _))⟩)) | (go_at_call 42; (with_reducible refine (aq_.calls k ((ab_ l0 0).f1) true _ A6.out).mono ?_); rintro e w' ⟨rfl, ⟨nd, rfl⟩⟩; (try first | exact ⟨rfl, _, World.drewN_drewN _ _ _⟩ | exact ⟨rfl, _, Eq.trans (World.drewN_drewN _ _ _) (congrArg (World.drewN _) (Nat.add_assoc _ _ _))⟩)) | (go_at_call 45; (with_reducible refine (ao_.calls ((ab_ l0 0).f2) 0 999 true _ A8.out).mono ?_); rintro e w' ⟨rfl, ⟨nd, rfl⟩⟩; (try first | exact ⟨rfl, _, World.drewN_drewN _ _ _⟩ | exact ⟨rfl, _, Eq.trans (World.drewN_drewN _ _ _) (congrArg (World.drewN _) (Nat.add_assoc _ _ _))⟩)) | (go_at_call 44; (with_reducible refine (bp_.calls k _ [(ab_ l0 0).f3] t108 _ ?side1 A10.out).mono ?_); (case side1 => exact (RPW.C_fst (RPW.C_snd (RPW.C_snd (RPW.C_snd (RPW.C_iso (RPW.cK_ (ad := ad101) (n := l0.length) (xs := l0) z43 (i := 0) (by first | exact of_eq_true p107 | exact p107 | omega) (by first | exact of_eq_true q107 | exact q107 | omega) (by first | exact (Kd.bU_ HR0.out HB.out) | exact cz (Kd.bU_ HR0.out HB.out))))))))); rintro e w11 ⟨rfl, hb⟩; replace HB := Aside0.mk (ac_ (bz HB.out) hb); (try clear hb))))
  go_meet
  case rel => exact ⟨_, (!t108), (by first | rfl | (simp; done) | (simp [*]; done)), H', ⟨by first | omega | exact Nat.le_refl _⟩, ⟨bz HB.out⟩⟩
 case rest =>
  clear HC2
  obtain ⟨kq, x32_1, rfl, HA, HJ1, HB⟩ := hcut
  cases kq with
  | zero => exact absurd HA.out (by simp [as_.j0])
  | succ kj1 =>
   have H := HA.out
   clear HA
   simp only [as_.j0] at H
   by_cases c12 : x32_1 = true
   rotate_left
   ·replace c12 := Bool.eq_false_iff.mpr c12
    subst c12
    have H1 : (if 0 < (l0.length : Int) then ((ao_.f ((ab_ l0 0).f4) 10 20000).bind fun t110 => (if t110 = true then ((ao_.f ((ab_ l0 0).f5) 10 20000).bind fun t112 => (if t112 = true then (as_.j1 kj1 l0 (decide ((((ab_ l0 0).f6).length : Int) > 6))) else (as_.j1 kj1 l0 true))) else (as_.j1 kj1 l0 true))) else (none)) = some r := by rw [if_neg (show ¬ (false = true) by decide)] at H; exact H
    clear H
    have H := H1
    clear H1
    have HC13 := Aside0.mk H
    clear H
    go_upto_region 3 with (fail)
    repeat (go_quiet (fail); go_upto_region 3 with (fail))
    go_cut [54] (fun v54 wc => ∃ (kq : Nat) (x54_12 : Bool), v54 = .bool x54_12 ∧ Aside0 (as_.j1 kq l0 x54_12 = some r) ∧ Aside0 (kq ≤ kj1) ∧ Aside0 (Below w.heap.size w wc))
    case first =>
     have H := HC13.out
     clear HC13
     by_cases c14 : 0 < (l0.length : Int)
     rotate_left
     ·rw [if_neg c14] at H
      exact absurd H (by simp)
     rw [if_pos c14] at H
     have c14b0 : decide (0 < (l0.length : Int)) = true := decide_eq_true c14
     have c14b1 : decide (0 < l0.length) = true := decide_eq_true (by omega)
     clear c14
     (first | rw [c14b0] | (simp only [i64_w, i32_w]; rw [c14b0]) | (simp only [c14b1, Bool.not_true, Bool.not_false]) | (simp only [c14b0, Bool.not_true, Bool.not_false]) | skip)
     replace H := Option.bind_eq_some_iff.mp H
     obtain ⟨t110, A150, H⟩ := H
     (try dsimp only at H)
     have A15 := Aside0.mk A150
     clear A150
     by_cases c16 : t110 = true
     rotate_left
     ·replace c16 := Bool.eq_false_iff.mpr c16
      subst c16
      have H1 : (as_.j1 kj1 l0 true) = some r := by rw [if_neg (show ¬ (false = true) by decide)] at H; exact H
      clear H
      have H := H1
      clear H1
      have H' := Aside0.mk H
      clear H
      have p109 : 0 ≤ (0 : Int) := (by omega)
      have q109 : 0 < (l0.length : Int) := of_decide_eq_true (by assumption)
      obtain ⟨ad109, A109_8, c109_8, e109, hx109_0, hx109_1, hx109_2, hx109_3, hx109_4, hx109_5, hx109_6, hx109_7, hx109_8, hl109_8, hi109_8⟩ := bS_ HR0.out 0 p109 q109
      cases e109
      have qi109 : (0 < l0.length) = True := eq_true (by omega)
      (try simp only [Int.toNat_zero, Nat.zero_mul, Addr.add_zero'] at hx109_0 hx109_1)
      (try simp only [Int.toNat_zero, Nat.zero_mul, Addr.add_zero'] at hx109_2 hx109_3)
      (try simp only [Int.toNat_zero, Nat.zero_mul, Addr.add_zero'] at hx109_4 hx109_5)
      (try simp only [Int.toNat_zero, Nat.zero_mul, Addr.add_zero'] at hx109_6 hx109_7 hx109_8)
      replace hx109_0 := bu_ HB.out hx109_0
      replace hx109_1 := bu_ HB.out hx109_1
      replace hx109_2 := bu_ HB.out hx109_2
      replace hx109_3 := bu_ HB.out hx109_3
      replace hx109_4 := bu_ HB.out hx109_4
      replace hx109_5 := bu_ HB.out hx109_5
      replace hx109_6 := bu_ HB.out hx109_6
      replace hx109_7 := bu_ HB.out hx109_7
      replace hx109_8 := bu_ HB.out hx109_8
      have HR109_8 := Aside0.mk hi109_8
      have HC109_8 := Aside0.mk hl109_8
      clear hi109_8 hl109_8
      replace p109 := eq_true p109
      replace q109 := eq_true q109
      (try clear hx101_8)
      (try clear hx103_8)
      (try clear hx105_8)
      (try clear hx107_8)
      (try clear hx101_8)
      (try clear hx103_8)
      (try clear hx105_8)
      (try clear hx101_8)
      (try clear hx103_8)
      (try clear hx101_8)
      go_wp2_with (first | (go_at_call 45; (with_reducible refine (ao_.calls ((ab_ l0 0).f4) 10 20000 false _ A15.out).mono ?_); rintro e w' ⟨rfl, ⟨nd, rfl⟩⟩; (try first | exact ⟨rfl, _, World.drewN_drewN _ _ _⟩ | exact ⟨rfl, _, Eq.trans (World.drewN_drewN _ _ _) (congrArg (World.drewN _) (Nat.add_assoc _ _ _))⟩)))
      repeat (go_quiet (first | (go_at_call 45; (with_reducible refine (ao_.calls ((ab_ l0 0).f4) 10 20000 false _ A15.out).mono ?_); rintro e w' ⟨rfl, ⟨nd, rfl⟩⟩; (try first | exact ⟨rfl, _, World.drewN_drewN _ _ _⟩ | exact ⟨rfl, _, Eq.trans (World.drewN_drewN _ _ _) (congrArg (World.drewN _) (Nat.add_assoc _ _ _))⟩))); try go_wp2_with (first | (go_at_call 45; (with_reducible refine (ao_.calls ((ab_ l0 0).f4) 10 20000 false _ A15.out).mono ?_); rintro e w' ⟨rfl, ⟨nd, rfl⟩⟩; (try first | exact ⟨rfl, _, World.drewN_drewN _ _ _⟩ | exact ⟨rfl, _, Eq.trans (World.drewN_drewN _ _ _) (congrArg (World.drewN _) (Nat.add_assoc _ _ _))⟩))))
      go_meet
      case rel => exact ⟨_, (true), (by first | rfl | (simp; done) | (simp [*]; done)), H', ⟨by have := HJ1.out; first | omega | exact Nat.le_refl _⟩, ⟨bz HB.out⟩⟩
     subst c16
     have H1 : ((ao_.f ((ab_ l0 0).f5) 10 20000).bind fun t112 => (if t112 = true then (as_.j1 kj1 l0 (decide ((((ab_ l0 0).f6).length : Int) > 6))) else (as_.j1 kj1 l0 true))) = some r := by rw [if_pos rfl] at H; exact H
     clear H
     have H := H1
     clear H1
     replace H := Option.bind_eq_some_iff.mp H
     obtain ⟨t112, A170, H⟩ := H
     (try dsimp only at H)
     have A17 := Aside0.mk A170
     clear A170
     by_cases c18 : t112 = true
     rotate_left
     ·replace c18 := Bool.eq_false_iff.mpr c18
      subst c18
      have H1 : (as_.j1 kj1 l0 true) = some r := by rw [if_neg (show ¬ (false = true) by decide)] at H; exact H
      clear H
      have H := H1
      clear H1
      have H' := Aside0.mk H
      clear H
      have p109 : 0 ≤ (0 : Int) := (by omega)
      have q109 : 0 < (l0.length : Int) := of_decide_eq_true (by assumption)
      obtain ⟨ad109, A109_8, c109_8, e109, hx109_0, hx109_1, hx109_2, hx109_3, hx109_4, hx109_5, hx109_6, hx109_7, hx109_8, hl109_8, hi109_8⟩ := bS_ HR0.out 0 p109 q109
      cases e109
      have qi109 : (0 < l0.length) = True := eq_true (by omega)
      (try simp only [Int.toNat_zero, Nat.zero_mul, Addr.add_zero'] at hx109_0 hx109_1)
      (try simp only [Int.toNat_zero, Nat.zero_mul, Addr.add_zero'] at hx109_2 hx109_3)
      (try simp only [Int.toNat_zero, Nat.zero_mul, Addr.add_zero'] at hx109_4 hx109_5)
      (try simp only [Int.toNat_zero, Nat.zero_mul, Addr.add_zero'] at hx109_6 hx109_7 hx109_8)
      replace hx109_0 := bu_ HB.out hx109_0
      replace hx109_1 := bu_ HB.out hx109_1
      replace hx109_2 := bu_ HB.out hx109_2
      replace hx109_3 := bu_ HB.out hx109_3
      replace hx109_4 := bu_ HB.out hx109_4
      replace hx109_5 := bu_ HB.out hx109_5
      replace hx109_6 := bu_ HB.out hx109_6
      replace hx109_7 := bu_ HB.out hx109_7
      replace hx109_8 := bu_ HB.out hx109_8
      have HR109_8 := Aside0.mk hi109_8
      have HC109_8 := Aside0.mk hl109_8
      clear hi109_8 hl109_8
      replace p109 := eq_true p109
      replace q109 := eq_true q109
      (try clear hx101_8)
      (try clear hx103_8)
      (try clear hx105_8)
      (try clear hx107_8)
      (try clear hx101_8)
      (try clear hx103_8)
      (try clear hx105_8)
      (try clear hx101_8)
      (try clear hx103_8)
      (try clear hx101_8)
      have p111 : 0 ≤ (0 : Int) := (by omega)
      have q111 : 0 < (l0.length : Int) := of_decide_eq_true (by assumption)
      obtain ⟨ad111, A111_8, c111_8, e111, hx111_0, hx111_1, hx111_2, hx111_3, hx111_4, hx111_5, hx111_6, hx111_7, hx111_8, hl111_8, hi111_8⟩ := bS_ HR0.out 0 p111 q111
      obtain rfl : ad109 = ad111 := (by injection e111)
      have qi111 : (0 < l0.length) = True := eq_true (by omega)
      (try simp only [Int.toNat_zero, Nat.zero_mul, Addr.add_zero'] at hx111_0 hx111_1)
      (try simp only [Int.toNat_zero, Nat.zero_mul, Addr.add_zero'] at hx111_2 hx111_3)
      (try simp only [Int.toNat_zero, Nat.zero_mul, Addr.add_zero'] at hx111_4 hx111_5)
      (try simp only [Int.toNat_zero, Nat.zero_mul, Addr.add_zero'] at hx111_6 hx111_7 hx111_8)
      replace hx111_0 := bu_ HB.out hx111_0
      replace hx111_1 := bu_ HB.out hx111_1
      replace hx111_2 := bu_ HB.out hx111_2
      replace hx111_3 := bu_ HB.out hx111_3
      replace hx111_4 := bu_ HB.out hx111_4
      replace hx111_5 := bu_ HB.out hx111_5
      replace hx111_6 := bu_ HB.out hx111_6
      replace hx111_7 := bu_ HB.out hx111_7
      replace hx111_8 := bu_ HB.out hx111_8
      have HR111_8 := Aside0.mk hi111_8
      have HC111_8 := Aside0.mk hl111_8
      clear hi111_8 hl111_8
      replace p111 := eq_true p111
      replace q111 := eq_true q111
      have ea_ := Option.some.inj (hx109_8.symm.trans hx111_8)
      injection ea_ with ea_ en_ ec_
      (try subst ea_)
      (try subst ec_)
      (try clear ea_ ec_)
      clear en_
      go_wp2_with (first | (go_at_call 45; (with_reducible refine (ao_.calls ((ab_ l0 0).f4) 10 20000 true _ A15.out).mono ?_); rintro e w' ⟨rfl, ⟨nd, rfl⟩⟩; (try first | exact ⟨rfl, _, World.drewN_drewN _ _ _⟩ | exact ⟨rfl, _, Eq.trans (World.drewN_drewN _ _ _) (congrArg (World.drewN _) (Nat.add_assoc _ _ _))⟩)) | (go_at_call 45; (with_reducible refine (ao_.calls ((ab_ l0 0).f5) 10 20000 false _ A17.out).mono ?_); rintro e w' ⟨rfl, ⟨nd, rfl⟩⟩; (try first | exact ⟨rfl, _, World.drewN_drewN _ _ _⟩ | exact ⟨rfl, _, Eq.trans (World.drewN_drewN _ _ _) (congrArg (World.drewN _) (Nat.add_assoc _ _ _))⟩)))
      repeat (go_quiet (first | (go_at_call 45; (with_reducible refine (ao_.calls ((ab_ l0 0).f4) 10 20000 true _ A15.out).mono ?_); rintro e w' ⟨rfl, ⟨nd, rfl⟩⟩; (try first | exact ⟨rfl, _, World.drewN_drewN _ _ _⟩ | exact ⟨rfl, _, Eq.trans (World.drewN_drewN _ _ _) (congrArg (World.drewN _) (Nat.add_assoc _ _ _))⟩)) | (go_at_call 45; (with_reducible refine (ao_.calls ((ab_ l0 0).f5) 10 20000 false _ A17.out).mono ?_); rintro e w' ⟨rfl, ⟨nd, rfl⟩⟩; (try first | exact ⟨rfl, _, World.drewN_drewN _ _ _⟩ | exact ⟨rfl, _, Eq.trans (World.drewN_drewN _ _ _) (congrArg (World.drewN _) (Nat.add_assoc _ _ _))⟩))); try go_wp2_with (first | (go_at_call 45; (with_reducible refine (ao_.calls ((ab_ l0 0).f4) 10 20000 true _ A15.out).mono ?_); rintro e w' ⟨rfl, ⟨nd, rfl⟩⟩; (try first | exact ⟨rfl, _, World.drewN_drewN _ _ _⟩ | exact ⟨rfl, _, Eq.trans (World.drewN_drewN _ _ _) (congrArg (World.drewN _) (Nat.add_assoc _ _ _))⟩)) | (go_at_call 45; (with_reducible refine (ao_.calls ((ab_ l0 0).f5) 10 20000 false _ A17.out).mono ?_); rintro e w' ⟨rfl, ⟨nd, rfl⟩⟩; (try first | exact ⟨rfl, _, World.drewN_drewN _ _ _⟩ | exact ⟨rfl, _, Eq.trans (World.drewN_drewN _ _ _) (congrArg (World.drewN _) (Nat.add_assoc _ _ _))⟩))))
      go_meet
      case rel => exact ⟨_, (true), (by first | rfl | (simp; done) | (simp [*]; done)), H', ⟨by have := HJ1.out; first | omega | exact Nat.le_refl _⟩, ⟨bz HB.out⟩⟩
     subst c18
     have H1 : (as_.j1 kj1 l0 (decide ((((ab_ l0 0).f6).length : Int) > 6))) = some r := by rw [if_pos rfl] at H; exact H
     clear H
     have H := H1
     clear H1
     have H' := Aside0.mk H
     clear H
     have p109 : 0 ≤ (0 : Int) := (by omega)
     have q109 : 0 < (l0.length : Int) := of_decide_eq_true (by assumption)
     obtain ⟨ad109, A109_8, c109_8, e109, hx109_0, hx109_1, hx109_2, hx109_3, hx109_4, hx109_5, hx109_6, hx109_7, hx109_8, hl109_8, hi109_8⟩ := bS_ HR0.out 0 p109 q109
     cases e109
     have qi109 : (0 < l0.length) = True := eq_true (by omega)
     (try simp only [Int.toNat_zero, Nat.zero_mul, Addr.add_zero'] at hx109_0 hx109_1)
     (try simp only [Int.toNat_zero, Nat.zero_mul, Addr.add_zero'] at hx109_2 hx109_3)
     (try simp only [Int.toNat_zero, Nat.zero_mul, Addr.add_zero'] at hx109_4 hx109_5)
     (try simp only [Int.toNat_zero, Nat.zero_mul, Addr.add_zero'] at hx109_6 hx109_7 hx109_8)
     replace hx109_0 := bu_ HB.out hx109_0
     replace hx109_1 := bu_ HB.out hx109_1
     replace hx109_2 := bu_ HB.out hx109_2
     replace hx109_3 := bu_ HB.out hx109_3
     replace hx109_4 := bu_ HB.out hx109_4
     replace hx109_5 := bu_ HB.out hx109_5
     replace hx109_6 := bu_ HB.out hx109_6
     replace hx109_7 := bu_ HB.out hx109_7
     replace hx109_8 := bu_ HB.out hx109_8
     have HR109_8 := Aside0.mk hi109_8
     have HC109_8 := Aside0.mk hl109_8
     clear hi109_8 hl109_8
     replace p109 := eq_true p109
     replace q109 := eq_true q109
     (try clear hx101_8)
     (try clear hx103_8)
     (try clear hx105_8)
     (try clear hx107_8)
     (try clear hx101_8)
     (try clear hx103_8)
     (try clear hx105_8)
     (try clear hx101_8)
     (try clear hx103_8)
     (try clear hx101_8)
     have p111 : 0 ≤ (0 : Int) := (by omega)
     have q111 : 0 < (l0.length : Int) := of_decide_eq_true (by assumption)
     obtain ⟨ad111, A111_8, c111_8, e111, hx111_0, hx111_1, hx111_2, hx111_3, hx111_4, hx111_5, hx111_6, hx111_7, hx111_8, hl111_8, hi111_8⟩ := bS_ HR0.out 0 p111 q111
     obtain rfl : ad109 = ad111 := (by injection e111)
     have qi111 : (0 < l0.length) = True := eq_true (by omega)
     (try simp only [Int.toNat_zero, Nat.zero_mul, Addr.add_zero'] at hx111_0 hx111_1)
     (try simp only [Int.toNat_zero, Nat.zero_mul, Addr.add_zero'] at hx111_2 hx111_3)
     (try simp only [Int.toNat_zero, Nat.zero_mul, Addr.add_zero'] at hx111_4 hx111_5)
     (try simp only [Int.toNat_zero, Nat.zero_mul, Addr.add_zero'] at hx111_6 hx111_7 hx111_8)
     replace hx111_0 := bu_ HB.out hx111_0
     replace hx111_1 := bu_ HB.out hx111_1
     replace hx111_2 := bu_ HB.out hx111_2
     replace hx111_3 := bu_ HB.out hx111_3
     replace hx111_4 := bu_ HB.out hx111_4
     replace hx111_5 := bu_ HB.out hx111_5
     replace hx111_6 := bu_ HB.out hx111_6
     replace hx111_7 := bu_ HB.out hx111_7
     replace hx111_8 := bu_ HB.out hx111_8
     have HR111_8 := Aside0.mk hi111_8
     have HC111_8 := Aside0.mk hl111_8
     clear hi111_8 hl111_8
     replace p111 := eq_true p111
     replace q111 := eq_true q111
     have ea_ := Option.some.inj (hx109_8.symm.trans hx111_8)
     injection ea_ with ea_ en_ ec_
     (try subst ea_)
     (try subst ec_)
     (try clear ea_ ec_)
     clear en_
     have p113 : 0 ≤ (0 : Int) := (by omega)
     have q113 : 0 < (l0.length : Int) := of_decide_eq_true (by assumption)
     obtain ⟨ad113, A113_8, c113_8, e113, hx113_0, hx113_1, hx113_2, hx113_3, hx113_4, hx113_5, hx113_6, hx113_7, hx113_8, hl113_8, hi113_8⟩ := bS_ HR0.out 0 p113 q113
     obtain rfl : ad109 = ad113 := (by injection e113)
     have qi113 : (0 < l0.length) = True := eq_true (by omega)
     (try simp only [Int.toNat_zero, Nat.zero_mul, Addr.add_zero'] at hx113_0 hx113_1)
     (try simp only [Int.toNat_zero, Nat.zero_mul, Addr.add_zero'] at hx113_2 hx113_3)
     (try simp only [Int.toNat_zero, Nat.zero_mul, Addr.add_zero'] at hx113_4 hx113_5)
     (try simp only [Int.toNat_zero, Nat.zero_mul, Addr.add_zero'] at hx113_6 hx113_7 hx113_8)
     replace hx113_0 := bu_ HB.out hx113_0
     replace hx113_1 := bu_ HB.out hx113_1
     replace hx113_2 := bu_ HB.out hx113_2
     replace hx113_3 := bu_ HB.out hx113_3
     replace hx113_4 := bu_ HB.out hx113_4
     replace hx113_5 := bu_ HB.out hx113_5
     replace hx113_6 := bu_ HB.out hx113_6
     replace hx113_7 := bu_ HB.out hx113_7
     replace hx113_8 := bu_ HB.out hx113_8
     have HR113_8 := Aside0.mk hi113_8
     have HC113_8 := Aside0.mk hl113_8
     clear hi113_8 hl113_8
     replace p113 := eq_true p113
     replace q113 := eq_true q113
     have ea_ := Option.some.inj (hx109_8.symm.trans hx113_8)
     injection ea_ with ea_ en_ ec_
     (try subst ea_)
     (try subst ec_)
     (try clear ea_ ec_)
     clear en_
     go_wp2_with (first | (go_at_call 45; (with_reducible refine (ao_.calls ((ab_ l0 0).f4) 10 20000 true _ A15.out).mono ?_); rintro e w' ⟨rfl, ⟨nd, rfl⟩⟩; (try first | exact ⟨rfl, _, World.drewN_drewN _ _ _⟩ | exact ⟨rfl, _, Eq.trans (World.drewN_drewN _ _ _) (congrArg (World.drewN _) (Nat.add_assoc _ _ _))⟩)) | (go_at_call 45; (with_reducible refine (ao_.calls ((ab_ l0 0).f5) 10 20000 true _ A17.out).mono ?_); rintro e w' ⟨rfl, ⟨nd, rfl⟩⟩; (try first | exact ⟨rfl, _, World.drewN_drewN _ _ _⟩ | exact ⟨rfl, _, Eq.trans (World.drewN_drewN _ _ _) (congrArg (World.drewN _) (Nat.add_assoc _ _ _))⟩)))
     repeat (go_quiet (first | (go_at_call 45; (with_reducible refine (ao_.calls ((ab_ l0 0).f4) 10 20000 true _ A15.out).mono ?_); rintro e w' ⟨rfl, ⟨nd, rfl⟩⟩; (try first | exact ⟨rfl, _, World.drewN_drewN _ _ _⟩ | exact ⟨rfl, _, Eq.trans (World.drewN_drewN _ _ _) (congrArg (World.drewN _) (Nat.add_assoc _ _ _))⟩)) | (go_at_call 45; (with_reducible refine (ao_.calls ((ab_ l0 0).f5) 10 20000 true _ A17.out).mono ?_); rintro e w' ⟨rfl, ⟨nd, rfl⟩⟩; (try first | exact ⟨rfl, _, World.drewN_drewN _ _ _⟩ | exact ⟨rfl, _, Eq.trans (World.drewN_drewN _ _ _) (congrArg (World.drewN _) (Nat.add_assoc _ _ _))⟩))); try go_wp2_with (first | (go_at_call 45; (with_reducible refine (ao_.calls ((ab_ l0 0).f4) 10 20000 true _ A15.out).mono ?_); rintro e w' ⟨rfl, ⟨nd, rfl⟩⟩; (try first | exact ⟨rfl, _, World.drewN_drewN _ _ _⟩ | exact ⟨rfl, _, Eq.trans (World.drewN_drewN _ _ _) (congrArg (World.drewN _) (Nat.add_assoc _ _ _))⟩)) | (go_at_call 45; (with_reducible refine (ao_.calls ((ab_ l0 0).f5) 10 20000 true _ A17.out).mono ?_); rintro e w' ⟨rfl, ⟨nd, rfl⟩⟩; (try first | exact ⟨rfl, _, World.drewN_drewN _ _ _⟩ | exact ⟨rfl, _, Eq.trans (World.drewN_drewN _ _ _) (congrArg (World.drewN _) (Nat.add_assoc _ _ _))⟩))))
     go_meet
     case rel => exact ⟨_, (decide ((((ab_ l0 0).f6).length : Int) > 6)), (by first | rfl | (simp; done) | (simp [*]; done)), H', ⟨by have := HJ1.out; first | omega | exact Nat.le_refl _⟩, ⟨bz HB.out⟩⟩
    case rest =>
     clear HC13
     obtain ⟨kq, x54_12, rfl, HA, HJ12, HB⟩ := hcut
     cases kq with
     | zero => exact absurd HA.out (by simp [as_.j1])
     | succ kj12 =>
      have H := HA.out
      clear HA
      simp only [as_.j1] at H
      by_cases c19 : x54_12 = true
      rotate_left
      ·replace c19 := Bool.eq_false_iff.mpr c19
       subst c19
       have H1 : (as_.l0 kj12 l0 0) = some r := by rw [if_neg (show ¬ (false = true) by decide)] at H; exact H
       clear H
       have H := H1
       clear H1
       have H' := Aside0.mk H
       clear H
       go_wp2
       repeat (go_quiet (fail); try go_wp2)
       (try simp only [Act.put, lsa_, ls0_, ls1_])
       go_loopg [3] kj12 (fun kq v3 w' => ∃ (x3_3 : Int), v3 = .int .i64 x3_3 ∧ Aside0 (as_.l0 kq l0 x3_3 = some r) ∧ Aside0 (kq ≤ kj12) ∧ Aside0 (Below w.heap.size w w'))
       case atStart => exact ⟨(0), (by first | rfl | (simp; done) | (simp [*]; done)), H', ⟨Nat.le_refl _⟩, ⟨bz HB.out⟩⟩
       case round =>
        clear H'
        obtain ⟨x3_3, rfl, HA, HK3, HB⟩ := hrel
        cases gk with
        | zero => exact absurd HA.out (by simp [as_.l0])
        | succ k3 =>
         have H := HA.out
         clear HA
         simp only [as_.l0] at H
         by_cases c20 : 0 < (l0.length : Int)
         rotate_left
         ·rw [if_neg c20] at H
          exact absurd H (by simp)
         rw [if_pos c20] at H
         have c20b0 : decide (0 < (l0.length : Int)) = true := decide_eq_true c20
         have c20b1 : decide (0 < l0.length) = true := decide_eq_true (by omega)
         clear c20
         by_cases c21 : x3_3 < (((ab_ l0 0).f6).length : Int)
         rotate_left
         ·rw [if_neg c21] at H
          have c21b0 : decide (x3_3 < (((ab_ l0 0).f6).length : Int)) = false := decide_eq_false c21
          clear c21
          obtain rfl := Option.some.inj H
          have p114 : 0 ≤ (0 : Int) := (by omega)
          have q114 : 0 < (l0.length : Int) := of_decide_eq_true (by assumption)
          obtain ⟨ad114, A114_8, c114_8, e114, hx114_0, hx114_1, hx114_2, hx114_3, hx114_4, hx114_5, hx114_6, hx114_7, hx114_8, hl114_8, hi114_8⟩ := bS_ HR0.out 0 p114 q114
          cases e114
          have qi114 : (0 < l0.length) = True := eq_true (by omega)
          (try simp only [Int.toNat_zero, Nat.zero_mul, Addr.add_zero'] at hx114_0 hx114_1)
          (try simp only [Int.toNat_zero, Nat.zero_mul, Addr.add_zero'] at hx114_2 hx114_3)
          (try simp only [Int.toNat_zero, Nat.zero_mul, Addr.add_zero'] at hx114_4 hx114_5)
          (try simp only [Int.toNat_zero, Nat.zero_mul, Addr.add_zero'] at hx114_6 hx114_7 hx114_8)
          replace hx114_0 := bu_ HB.out hx114_0
          replace hx114_1 := bu_ HB.out hx114_1
          replace hx114_2 := bu_ HB.out hx114_2
          replace hx114_3 := bu_ HB.out hx114_3
          replace hx114_4 := bu_ HB.out hx114_4
          replace hx114_5 := bu_ HB.out hx114_5
          replace hx114_6 := bu_ HB.out hx114_6
          replace hx114_7 := bu_ HB.out hx114_7
          replace hx114_8 := bu_ HB.out hx114_8
          have HR114_8 := Aside0.mk hi114_8
          have HC114_8 := Aside0.mk hl114_8
          clear hi114_8 hl114_8
          replace p114 := eq_true p114
          replace q114 := eq_true q114
          (try clear hx101_8)
          (try clear hx103_8)
          (try clear hx105_8)
          (try clear hx107_8)
          (try clear hx101_8)
          (try clear hx103_8)
          (try clear hx105_8)
          (try clear hx101_8)
          (try clear hx103_8)
          (try clear hx101_8)
          (try clear hx109_8)
          (try clear hx111_8)
          (try clear hx113_8)
          (try clear hx109_8)
          (try clear hx111_8)
          (try clear hx109_8)
          go_wp2
          repeat (go_quiet (fail); try go_wp2)
          go_ret
          exact ⟨by first | rfl | (simp [*, ai_, ah_] <;> rfl), bz HB.out⟩
         rw [if_pos c21] at H
         have c21b0 : decide (x3_3 < (((ab_ l0 0).f6).length : Int)) = true := decide_eq_true c21
         clear c21
         by_cases c22 : 0 ≤ x3_3
         rotate_left
         ·rw [if_neg c22] at H
          exact absurd H (by simp)
         rw [if_pos c22] at H
         have c22b0 : decide (0 ≤ x3_3) = true := decide_eq_true c22
         clear c22
         replace H := Option.bind_eq_some_iff.mp H
         obtain ⟨t119, A230, H⟩ := H
         (try dsimp only at H)
         have A23 := Aside0.mk A230
         clear A230
         have HC24 := Aside0.mk H
         clear H
         have p114 : 0 ≤ (0 : Int) := (by omega)
         have q114 : 0 < (l0.length : Int) := of_decide_eq_true (by assumption)
         obtain ⟨ad114, A114_8, c114_8, e114, hx114_0, hx114_1, hx114_2, hx114_3, hx114_4, hx114_5, hx114_6, hx114_7, hx114_8, hl114_8, hi114_8⟩ := bS_ HR0.out 0 p114 q114
         cases e114
         have qi114 : (0 < l0.length) = True := eq_true (by omega)
         (try simp only [Int.toNat_zero, Nat.zero_mul, Addr.add_zero'] at hx114_0 hx114_1)
         (try simp only [Int.toNat_zero, Nat.zero_mul, Addr.add_zero'] at hx114_2 hx114_3)
         (try simp only [Int.toNat_zero, Nat.zero_mul, Addr.add_zero'] at hx114_4 hx114_5)
         (try simp only [Int.toNat_zero, Nat.zero_mul, Addr.add_zero'] at hx114_6 hx114_7 hx114_8)
         replace hx114_0 := bu_ HB.out hx114_0
         replace hx114_1 := bu_ HB.out hx114_1
         replace hx114_2 := bu_ HB.out hx114_2
         replace hx114_3 := bu_ HB.out hx114_3
         replace hx114_4 := bu_ HB.out hx114_4
         replace hx114_5 := bu_ HB.out hx114_5
         replace hx114_6 := bu_ HB.out hx114_6
         replace hx114_7 := bu_ HB.out hx114_7
         replace hx114_8 := bu_ HB.out hx114_8
         have HR114_8 := Aside0.mk hi114_8
         have HC114_8 := Aside0.mk hl114_8
         clear hi114_8 hl114_8
         replace p114 := eq_true p114
         replace q114 := eq_true q114
         (try clear hx101_8)
         (try clear hx103_8)
         (try clear hx105_8)
         (try clear hx107_8)
         (try clear hx101_8)
         (try clear hx103_8)
         (try clear hx105_8)
         (try clear hx101_8)
         (try clear hx103_8)
         (try clear hx101_8)
         (try clear hx109_8)
         (try clear hx111_8)
         (try clear hx113_8)
         (try clear hx109_8)
         (try clear hx111_8)
         (try clear hx109_8)
         have p115 : 0 ≤ (0 : Int) := (by omega)
         have q115 : 0 < (l0.length : Int) := of_decide_eq_true (by assumption)
         obtain ⟨ad115, A115_8, c115_8, e115, hx115_0, hx115_1, hx115_2, hx115_3, hx115_4, hx115_5, hx115_6, hx115_7, hx115_8, hl115_8, hi115_8⟩ := bS_ HR0.out 0 p115 q115
         obtain rfl : ad114 = ad115 := (by injection e115)
         have qi115 : (0 < l0.length) = True := eq_true (by omega)
         (try simp only [Int.toNat_zero, Nat.zero_mul, Addr.add_zero'] at hx115_0 hx115_1)
         (try simp only [Int.toNat_zero, Nat.zero_mul, Addr.add_zero'] at hx115_2 hx115_3)
         (try simp only [Int.toNat_zero, Nat.zero_mul, Addr.add_zero'] at hx115_4 hx115_5)
         (try simp only [Int.toNat_zero, Nat.zero_mul, Addr.add_zero'] at hx115_6 hx115_7 hx115_8)
         replace hx115_0 := bu_ HB.out hx115_0
         replace hx115_1 := bu_ HB.out hx115_1
         replace hx115_2 := bu_ HB.out hx115_2
         replace hx115_3 := bu_ HB.out hx115_3
         replace hx115_4 := bu_ HB.out hx115_4
         replace hx115_5 := bu_ HB.out hx115_5
         replace hx115_6 := bu_ HB.out hx115_6
         replace hx115_7 := bu_ HB.out hx115_7
         replace hx115_8 := bu_ HB.out hx115_8
         have HR115_8 := Aside0.mk hi115_8
         have HC115_8 := Aside0.mk hl115_8
         clear hi115_8 hl115_8
         replace p115 := eq_true p115
         replace q115 := eq_true q115
         have ea_ := Option.some.inj (hx114_8.symm.trans hx115_8)
         injection ea_ with ea_ en_ ec_
         (try subst ea_)
         (try subst ec_)
         (try clear ea_ ec_)
         clear en_
         have p116 : 0 ≤ (x3_3 : Int) := of_decide_eq_true (by assumption)
         have q116 : x3_3 < (((ab_ l0 0).f6).length : Int) := of_decide_eq_true (by assumption)
         obtain ⟨ad116, e116, hx116_0, hx116_1, hx116_2, hx116_3⟩ := ck_ HR115_8.out x3_3 p116 q116
         cases e116
         replace hx116_0 := bu_ HB.out hx116_0
         replace hx116_1 := bu_ HB.out hx116_1
         replace hx116_2 := bu_ HB.out hx116_2
         replace hx116_3 := bu_ HB.out hx116_3
         replace p116 := eq_true p116
         replace q116 := eq_true q116
         have p117 : 0 ≤ (0 : Int) := (by omega)
         have q117 : 0 < (l0.length : Int) := of_decide_eq_true (by assumption)
         obtain ⟨ad117, A117_8, c117_8, e117, hx117_0, hx117_1, hx117_2, hx117_3, hx117_4, hx117_5, hx117_6, hx117_7, hx117_8, hl117_8, hi117_8⟩ := bS_ HR0.out 0 p117 q117
         obtain rfl : ad114 = ad117 := (by injection e117)
         have qi117 : (0 < l0.length) = True := eq_true (by omega)
         (try simp only [Int.toNat_zero, Nat.zero_mul, Addr.add_zero'] at hx117_0 hx117_1)
         (try simp only [Int.toNat_zero, Nat.zero_mul, Addr.add_zero'] at hx117_2 hx117_3)
         (try simp only [Int.toNat_zero, Nat.zero_mul, Addr.add_zero'] at hx117_4 hx117_5)
         (try simp only [Int.toNat_zero, Nat.zero_mul, Addr.add_zero'] at hx117_6 hx117_7 hx117_8)
         replace hx117_0 := bu_ HB.out hx117_0
         replace hx117_1 := bu_ HB.out hx117_1
         replace hx117_2 := bu_ HB.out hx117_2
         replace hx117_3 := bu_ HB.out hx117_3
         replace hx117_4 := bu_ HB.out hx117_4
         replace hx117_5 := bu_ HB.out hx117_5
         replace hx117_6 := bu_ HB.out hx117_6
         replace hx117_7 := bu_ HB.out hx117_7
         replace hx117_8 := bu_ HB.out hx117_8
         have HR117_8 := Aside0.mk hi117_8
         have HC117_8 := Aside0.mk hl117_8
         clear hi117_8 hl117_8
         replace p117 := eq_true p117
         replace q117 := eq_true q117
         have ea_ := Option.some.inj (hx114_8.symm.trans hx117_8)
         injection ea_ with ea_ en_ ec_
         (try subst ea_)
         (try subst ec_)
         (try clear ea_ ec_)
         clear en_
         have p118 : 0 ≤ (0 : Int) := (by omega)
         have q118 : 0 < (l0.length : Int) := of_decide_eq_true (by assumption)
         obtain ⟨ad118, A118_8, c118_8, e118, hx118_0, hx118_1, hx118_2, hx118_3, hx118_4, hx118_5, hx118_6, hx118_7, hx118_8, hl118_8, hi118_8⟩ := bS_ HR0.out 0 p118 q118
         obtain rfl : ad114 = ad118 := (by injection e118)
         have qi118 : (0 < l0.length) = True := eq_true (by omega)
         (try simp only [Int.toNat_zero, Nat.zero_mul, Addr.add_zero'] at hx118_0 hx118_1)
         (try simp only [Int.toNat_zero, Nat.zero_mul, Addr.add_zero'] at hx118_2 hx118_3)
         (try simp only [Int.toNat_zero, Nat.zero_mul, Addr.add_zero'] at hx118_4 hx118_5)
         (try simp only [Int.toNat_zero, Nat.zero_mul, Addr.add_zero'] at hx118_6 hx118_7 hx118_8)
         replace hx118_0 := bu_ HB.out hx118_0
         replace hx118_1 := bu_ HB.out hx118_1
         replace hx118_2 := bu_ HB.out hx118_2
         replace hx118_3 := bu_ HB.out hx118_3
         replace hx118_4 := bu_ HB.out hx118_4
         replace hx118_5 := bu_ HB.out hx118_5
         replace hx118_6 := bu_ HB.out hx118_6
         replace hx118_7 := bu_ HB.out hx118_7
         replace hx118_8 := bu_ HB.out hx118_8
         have HR118_8 := Aside0.mk hi118_8
         have HC118_8 := Aside0.mk hl118_8
         clear hi118_8 hl118_8
         replace p118 := eq_true p118
         replace q118 := eq_true q118
         have ea_ := Option.some.inj (hx114_8.symm.trans hx118_8)
         injection ea_ with ea_ en_ ec_
         (try subst ea_)
         (try subst ec_)
         (try clear ea_ ec_)
         clear en_
         go_upto_if 79 with (first | (go_at_call 46; (with_reducible refine (cB_.calls _ [al_ ((ab_ l0 0).f6) x3_3] ((ab_ l0 0).f4) ((ab_ l0 0).f5) t119 _ ?side1 A23.out).mono ?_); (case side1 => exact (RPW.cK_ (ad := ad116) (n := ((ab_ l0 0).f6).length) (xs := ((ab_ l0 0).f6)) z66 (i := x3_3) (by first | exact of_eq_true p116 | exact p116 | omega) (by first | exact of_eq_true q116 | exact q116 | omega) (by first | exact (Kd.bU_ HR115_8.out HB.out) | exact cz (Kd.bU_ HR115_8.out HB.out)))); rintro e w' ⟨rfl, ⟨nd, rfl⟩⟩; (try first | exact ⟨rfl, _, World.drewN_drewN _ _ _⟩ | exact ⟨rfl, _, Eq.trans (World.drewN_drewN _ _ _) (congrArg (World.drewN _) (Nat.add_assoc _ _ _))⟩)))
         repeat (go_quiet (first | (go_at_call 46; (with_reducible refine (cB_.calls _ [al_ ((ab_ l0 0).f6) x3_3] ((ab_ l0 0).f4) ((ab_ l0 0).f5) t119 _ ?side1 A23.out).mono ?_); (case side1 => exact (RPW.cK_ (ad := ad116) (n := ((ab_ l0 0).f6).length) (xs := ((ab_ l0 0).f6)) z66 (i := x3_3) (by first | exact of_eq_true p116 | exact p116 | omega) (by first | exact of_eq_true q116 | exact q116 | omega) (by first | exact (Kd.bU_ HR115_8.out HB.out) | exact cz (Kd.bU_ HR115_8.out HB.out)))); rintro e w' ⟨rfl, ⟨nd, rfl⟩⟩; (try first | exact ⟨rfl, _, World.drewN_drewN _ _ _⟩ | exact ⟨rfl, _, Eq.trans (World.drewN_drewN _ _ _) (congrArg (World.drewN _) (Nat.add_assoc _ _ _))⟩))); go_upto_if 79 with (first | (go_at_call 46; (with_reducible refine (cB_.calls _ [al_ ((ab_ l0 0).f6) x3_3] ((ab_ l0 0).f4) ((ab_ l0 0).f5) t119 _ ?side1 A23.out).mono ?_); (case side1 => exact (RPW.cK_ (ad := ad116) (n := ((ab_ l0 0).f6).length) (xs := ((ab_ l0 0).f6)) z66 (i := x3_3) (by first | exact of_eq_true p116 | exact p116 | omega) (by first | exact of_eq_true q116 | exact q116 | omega) (by first | exact (Kd.bU_ HR115_8.out HB.out) | exact cz (Kd.bU_ HR115_8.out HB.out)))); rintro e w' ⟨rfl, ⟨nd, rfl⟩⟩; (try first | exact ⟨rfl, _, World.drewN_drewN _ _ _⟩ | exact ⟨rfl, _, Eq.trans (World.drewN_drewN _ _ _) (congrArg (World.drewN _) (Nat.add_assoc _ _ _))⟩))))
         (try simp only [Act.put, lsa_, ls0_, ls1_])
         have H := HC24.out
         clear HC24
         by_cases c25 : t119 = true
         rotate_left
         ·replace c25 := Bool.eq_false_iff.mpr c25
          subst c25
          have H1 : (some false) = some r := by rw [if_neg (show ¬ (false = true) by decide)] at H; exact H
          clear H
          have H := H1
          clear H1
          obtain rfl := Option.some.inj H
          go_wp2
          repeat (go_quiet (fail); try go_wp2)
          go_ret
          exact ⟨by first | rfl | (simp [*, ai_, ah_] <;> rfl), bz HB.out⟩
         subst c25
         have H1 : (as_.l0 k3 l0 (wrap64 (x3_3 + 1))) = some r := by rw [if_pos rfl] at H; exact H
         clear H
         have H := H1
         clear H1
         have H' := Aside0.mk H
         clear H
         go_wp2
         repeat (go_quiet (fail); try go_wp2)
         go_roundg k3
         case measure => have := HJ1.out; have := HJ12.out; have := HK3.out; omega
         case rel => exact ⟨(wrap64 (x3_3 + 1)), (by first | rfl | (simp; done) | (simp [*]; done)), H', ⟨by have := HJ1.out; have := HJ12.out; have := HK3.out; omega⟩, ⟨bz HB.out⟩⟩
      subst c19
      have H1 : (some false) = some r := by rw [if_pos rfl] at H; exact H
      clear H
      have H := H1
      clear H1
      obtain rfl := Option.some.inj H
      go_wp2
      repeat (go_quiet (fail); try go_wp2)
      go_ret
      exact ⟨by first | rfl | (simp [*, ai_, ah_] <;> rfl), bz HB.out⟩
   subst c12
   have H1 : (some false) = some r := by rw [if_pos rfl] at H; exact H
   clear H
   have H := H1
   clear H1
   obtain rfl := Option.some.inj H
   go_wp2
   repeat (go_quiet (fail); try go_wp2)
   go_ret
   exact ⟨by first | rfl | (simp [*, ai_, ah_] <;> rfl), bz HB.out⟩
end Go.Proofs.YtckboiphlhhckaaGreatDoor.Q
