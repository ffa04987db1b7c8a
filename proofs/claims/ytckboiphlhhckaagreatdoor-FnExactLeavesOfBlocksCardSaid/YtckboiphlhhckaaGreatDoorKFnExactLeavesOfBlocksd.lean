/- The statement FnExactLeavesOfBlocks: for all lists of blocks the program and the reference give the same leaves and the same code; the lists handed over stay as they are, and the leaves are new. This text holds the functions' walks and the words for them. -/
import Derived.Test.YtckboiphlhhckaaGreatDoorKFnExactLeavesOfBlocksa
import Derived.Test.YtckboiphlhhckaaGreatDoorKFnExactLeavesOfBlocksc
set_option linter.unusedVariables false
set_option linter.unusedSimpArgs false
namespace Go.Proofs.YtckboiphlhhckaaGreatDoor.Q
open Go.RowKit Go.Proofs.YtckboiphlhhckaaGreatDoorW.PrintWords Go.Proofs.YtckboiphlhhckaaGreatDoorW.PrintLast Go.Proofs.YtckboiphlhhckaaGreatDoorW.PrintMore
attribute [local go_sem] aN_ aM_ aW_ aU_ aC_ aD_ aL_ aO_
mutual
def ak_.j0 : Nat → ByteArray → ByteArray → Option (Int × Bool)
 | 0, _, _ => none
 | k + 1, x0, x4 => if (x4.size : Int) < 1 then (ak_.j1 k x0 x4 true) else (ak_.j1 k x0 x4 (decide ((x4.size : Int) > 18)))
def ak_.j1 : Nat → ByteArray → ByteArray → Bool → Option (Int × Bool)
 | 0, _, _, _ => none
 | k + 1, x0, x4, x19 => if x19 = true then (some (0, false)) else (ak_.l0 k x0 x4 0 0)
def ak_.l0 : Nat → ByteArray → ByteArray → Int → Int → Option (Int × Bool)
 | 0, _, _, _, _ => none
 | k + 1, x0, x4, x5, x6 => if x6 < (x4.size : Int) then (if 0 ≤ x6 then (if (bt x4 x6) < 48 then (some (0, false)) else (if (bt x4 x6) > 57 then (some (0, false)) else (ak_.l0 k x0 x4 (wrap64 ((wrap64 (x5 * 10)) + (((bt x4 x6) - 48) % 256))) (wrap64 (x6 + 1))))) else (none)) else (if (x4.size : Int) < (x0.size : Int) then ((ba_.f (wrap64 (-x5))).bind fun t102 => (if t102.toList = x0.toList then (some (wrap64 (-x5), true)) else (some (0, false)))) else ((ba_.f x5).bind fun t103 => (if t103.toList = x0.toList then (some (x5, true)) else (some (0, false)))))
end
def ak_.f (k : Nat) (a0 : ByteArray) : Option (Int × Bool) := (strings_HasPrefix.f a0 (⟨#[45]⟩ : ByteArray)).bind fun t101 => (if t101 = true then (if 1 ≤ (a0.size : Int) then (ak_.j0 k a0 (a0.extract 1 a0.size)) else (none)) else (ak_.j0 k a0 a0))
set_option maxHeartbeats 8000000 in
set_option maxRecDepth 100000 in
theorem ak_.calls (k : Nat) (a0 : ByteArray) (r1 : Int) (r2 : Bool) (w : World) (hTab_ : Tab_ w) (h : ak_.f k a0 = some (r1, r2)) :
  Calls Tryz.prog 35 #[.string a0] w fun e w' => e = .returned (.tuple #[.int .i64 r1, .bool r2]) ∧ Below w.heap.size w w' := by
 have HTab_ := Aside0.mk hTab_
 clear hTab_
 have HB := Aside0.mk (Below.refl w.heap.size w)
 have H : ((strings_HasPrefix.f a0 (⟨#[45]⟩ : ByteArray)).bind fun t101 => (if t101 = true then (if 1 ≤ (a0.size : Int) then (ak_.j0 k a0 (a0.extract 1 a0.size)) else (none)) else (ak_.j0 k a0 a0))) = some (r1, r2) := h
 clear h
 replace H := Option.bind_eq_some_iff.mp H
 obtain ⟨t101, A20, H⟩ := H
 (try dsimp only at H)
 have A2 := Aside0.mk A20
 clear A20
 have HC3 := Aside0.mk H
 clear H
 go_enter Tryz.func35, Tryz.ntmps35
 go_upto_if 9 with (first | ((with_reducible refine af_ (f := 51) rfl ?_); refine aJ_ (some 9) rfl rfl Tryz.func51 (by kernel_rfl) rfl #[.string a0, .string (⟨#[45]⟩ : ByteArray)] rfl (by first | rfl | (simp only [lma_, lmc_, lmn_]; first | done | rfl)) ?_; (with_reducible refine (strings_HasPrefix.calls a0 (⟨#[45]⟩ : ByteArray) t101 _ A2.out).mono ?_); rintro e w' ⟨rfl, ⟨nd, rfl⟩⟩; refine ⟨_, rfl, ?_⟩))
 (try simp only [Act.put, lsa_, ls0_, ls1_])
 go_cut [4] (fun v4 wc => ∃ (kq : Nat) (x4_2 : ByteArray), v4 = .string x4_2 ∧ Aside0 (ak_.j0 kq a0 x4_2 = some (r1, r2)) ∧ Aside0 (kq ≤ k) ∧ Aside0 (Below w.heap.size w wc))
 case first =>
  have H := HC3.out
  clear HC3
  by_cases c4 : t101 = true
  rotate_left
  ·replace c4 := Bool.eq_false_iff.mpr c4
   subst c4
   have H1 : (ak_.j0 k a0 a0) = some (r1, r2) := by rw [if_neg (show ¬ (false = true) by decide)] at H; exact H
   clear H
   have H := H1
   clear H1
   have H' := Aside0.mk H
   clear H
   go_wp2
   go_meet
   case rel => exact ⟨_, (a0), (by first | rfl | (simp; done) | (simp [*]; done)), H', ⟨by first | omega | exact Nat.le_refl _⟩, ⟨bz HB.out⟩⟩
  subst c4
  have H1 : (if 1 ≤ (a0.size : Int) then (ak_.j0 k a0 (a0.extract 1 a0.size)) else (none)) = some (r1, r2) := by rw [if_pos rfl] at H; exact H
  clear H
  have H := H1
  clear H1
  by_cases c5 : 1 ≤ (a0.size : Int)
  rotate_left
  ·rw [if_neg c5] at H
   exact absurd H (by simp)
  rw [if_pos c5] at H
  have c5b0 := eq_true c5
  have c5b1 : decide (1 ≤ (a0.size : Int)) = true := decide_eq_true c5
  clear c5
  have H' := Aside0.mk H
  clear H
  go_wp2
  go_meet
  case rel => exact ⟨_, (a0.extract 1 a0.size), (by first | rfl | (simp; done) | (simp [*]; done)), H', ⟨by first | omega | exact Nat.le_refl _⟩, ⟨bz HB.out⟩⟩
 case rest =>
  clear HC3
  obtain ⟨kq, x4_2, rfl, HA, HJ2, HB⟩ := hcut
  cases kq with
  | zero => exact absurd HA.out (by simp [ak_.j0])
  | succ kj2 =>
   have H := HA.out
   clear HA
   simp only [ak_.j0] at H
   have HC6 := Aside0.mk H
   clear H
   go_upto_region 4 with (fail)
   go_cut [19] (fun v19 wc => ∃ (kq : Nat) (x19_5 : Bool), v19 = .bool x19_5 ∧ Aside0 (ak_.j1 kq a0 x4_2 x19_5 = some (r1, r2)) ∧ Aside0 (kq ≤ kj2) ∧ Aside0 (Below w.heap.size w wc))
   case first =>
    have H := HC6.out
    clear HC6
    by_cases c7 : (x4_2.size : Int) < 1
    rotate_left
    ·rw [if_neg c7] at H
     have c7b0 : decide ((x4_2.size : Int) < 1) = false := decide_eq_false c7
     have c7b1 : decide (x4_2.size < 1) = false := decide_eq_false (by omega)
     clear c7
     (first | rw [c7b0] | (simp only [i64_w, i32_w]; rw [c7b0]) | (simp only [c7b1, Bool.not_true, Bool.not_false]) | (simp only [c7b0, Bool.not_true, Bool.not_false]) | skip)
     have H' := Aside0.mk H
     clear H
     go_wp2
     go_meet
     case rel => exact ⟨_, (decide ((x4_2.size : Int) > 18)), (by first | rfl | (simp; done) | (simp [*]; done)), H', ⟨by have := HJ2.out; first | omega | exact Nat.le_refl _⟩, ⟨bz HB.out⟩⟩
    rw [if_pos c7] at H
    have c7b0 : decide ((x4_2.size : Int) < 1) = true := decide_eq_true c7
    have c7b1 : decide (x4_2.size < 1) = true := decide_eq_true (by omega)
    clear c7
    (first | rw [c7b0] | (simp only [i64_w, i32_w]; rw [c7b0]) | (simp only [c7b1, Bool.not_true, Bool.not_false]) | (simp only [c7b0, Bool.not_true, Bool.not_false]) | skip)
    have H' := Aside0.mk H
    clear H
    go_wp2
    go_meet
    case rel => exact ⟨_, (true), (by first | rfl | (simp; done) | (simp [*]; done)), H', ⟨by have := HJ2.out; first | omega | exact Nat.le_refl _⟩, ⟨bz HB.out⟩⟩
   case rest =>
    clear HC6
    obtain ⟨kq, x19_5, rfl, HA, HJ5, HB⟩ := hcut
    cases kq with
    | zero => exact absurd HA.out (by simp [ak_.j1])
    | succ kj5 =>
     have H := HA.out
     clear HA
     simp only [ak_.j1] at H
     by_cases c8 : x19_5 = true
     rotate_left
     ·replace c8 := Bool.eq_false_iff.mpr c8
      subst c8
      have H1 : (ak_.l0 kj5 a0 x4_2 0 0) = some (r1, r2) := by rw [if_neg (show ¬ (false = true) by decide)] at H; exact H
      clear H
      have H := H1
      clear H1
      have H' := Aside0.mk H
      clear H
      go_wp2
      (try simp only [Act.put, lsa_, ls0_, ls1_])
      go_loopg [5, 6] kj5 (fun kq v5 v6 w' => ∃ (x5_3 : Int) (x6_3 : Int), v5 = .int .i64 x5_3 ∧ v6 = .int .i64 x6_3 ∧ Aside0 (ak_.l0 kq a0 x4_2 x5_3 x6_3 = some (r1, r2)) ∧ Aside0 (kq ≤ kj5) ∧ Aside0 (Below w.heap.size w w'))
      case atStart => exact ⟨(0), (0), (by first | rfl | (simp; done) | (simp [*]; done)), (by first | rfl | (simp; done) | (simp [*]; done)), H', ⟨Nat.le_refl _⟩, ⟨bz HB.out⟩⟩
      case round =>
       clear H'
       obtain ⟨x5_3, x6_3, rfl, rfl, HA, HK3, HB⟩ := hrel
       cases gk with
       | zero => exact absurd HA.out (by simp [ak_.l0])
       | succ k3 =>
        have H := HA.out
        clear HA
        simp only [ak_.l0] at H
        by_cases c9 : x6_3 < (x4_2.size : Int)
        rotate_left
        ·rw [if_neg c9] at H
         have c9b0 : decide (x6_3 < (x4_2.size : Int)) = false := decide_eq_false c9
         clear c9
         by_cases c16 : (x4_2.size : Int) < (a0.size : Int)
         rotate_left
         ·rw [if_neg c16] at H
          have c16b0 : decide ((x4_2.size : Int) < (a0.size : Int)) = false := decide_eq_false c16
          have c16b1 : decide (x4_2.size < a0.size) = false := decide_eq_false (fun h => c16 (Int.ofNat_lt.mpr h))
          clear c16
          replace H := Option.bind_eq_some_iff.mp H
          obtain ⟨t103, A210, H⟩ := H
          (try dsimp only at H)
          have A21 := Aside0.mk A210
          clear A210
          have HC22 := Aside0.mk H
          clear H
          go_upto_if 54 with (first | ((with_reducible refine af_ (f := 52) rfl ?_); refine aJ_ (some 52) rfl rfl Tryz.func52 (by kernel_rfl) rfl #[.int .i64 x5_3] rfl (by first | rfl | (simp only [lma_, lmc_, lmn_]; first | done | rfl)) ?_; (with_reducible refine (ba_.calls x5_3 t103 _ ?side1 A21.out).mono ?_); (case side1 => exact bc_ HTab_.out (bz HB.out)); rintro e w23 ⟨rfl, hb⟩; refine ⟨_, rfl, ?_⟩; replace HB := Aside0.mk (ac_ (bz HB.out) hb); (try clear hb)))
          (try simp only [Act.put, lsa_, ls0_, ls1_])
          have H := HC22.out
          clear HC22
          by_cases c24 : t103.toList = a0.toList
          rotate_left
          ·rw [if_neg c24] at H
           have c24b0 : (t103.toList == a0.toList) = false := beq_eq_false_iff_ne.mpr c24
           have c24b1 : (t103.toList != a0.toList) = true := bne_iff_ne.mpr c24
           (first | rw [c24b0] | (simp only [i64_w, i32_w]; rw [c24b0]) | (simp only [c24b1, Bool.not_true, Bool.not_false]) | (simp only [c24b0, Bool.not_true, Bool.not_false]) | skip)
           simp only [Option.some.injEq, Prod.mk.injEq] at H
           obtain ⟨rfl, rfl⟩ := H
           go_wp2
           go_ret2
           exact ⟨by first | rfl | (simp [*, ai_, ah_] <;> rfl), bz HB.out⟩
          rw [if_pos c24] at H
          have c24b0 : (t103.toList == a0.toList) = true := beq_iff_eq.mpr c24
          have c24b1 : (t103.toList != a0.toList) = false := bne_eq_false_iff_eq.mpr c24
          clear c24
          (first | rw [c24b0] | (simp only [i64_w, i32_w]; rw [c24b0]) | (simp only [c24b1, Bool.not_true, Bool.not_false]) | (simp only [c24b0, Bool.not_true, Bool.not_false]) | skip)
          simp only [Option.some.injEq, Prod.mk.injEq] at H
          obtain ⟨rfl, rfl⟩ := H
          go_wp2
          go_ret2
          exact ⟨by first | rfl | (simp [*, ai_, ah_] <;> rfl), bz HB.out⟩
         rw [if_pos c16] at H
         have c16b0 : decide ((x4_2.size : Int) < (a0.size : Int)) = true := decide_eq_true c16
         have c16b1 : decide (x4_2.size < a0.size) = true := decide_eq_true (Int.ofNat_lt.mp c16)
         clear c16
         replace H := Option.bind_eq_some_iff.mp H
         obtain ⟨t102, A170, H⟩ := H
         (try dsimp only at H)
         have A17 := Aside0.mk A170
         clear A170
         have HC18 := Aside0.mk H
         clear H
         go_upto_if 54 with (first | ((with_reducible refine af_ (f := 52) rfl ?_); refine aJ_ (some 52) rfl rfl Tryz.func52 (by kernel_rfl) rfl #[.int .i64 (wrap64 (-x5_3))] rfl (by first | rfl | (simp only [lma_, lmc_, lmn_]; first | done | rfl)) ?_; (with_reducible refine (ba_.calls (wrap64 (-x5_3)) t102 _ ?side1 A17.out).mono ?_); (case side1 => exact bc_ HTab_.out (bz HB.out)); rintro e w19 ⟨rfl, hb⟩; refine ⟨_, rfl, ?_⟩; replace HB := Aside0.mk (ac_ (bz HB.out) hb); (try clear hb)))
         (try simp only [Act.put, lsa_, ls0_, ls1_])
         have H := HC18.out
         clear HC18
         by_cases c20 : t102.toList = a0.toList
         rotate_left
         ·rw [if_neg c20] at H
          have c20b0 : (t102.toList == a0.toList) = false := beq_eq_false_iff_ne.mpr c20
          have c20b1 : (t102.toList != a0.toList) = true := bne_iff_ne.mpr c20
          (first | rw [c20b0] | (simp only [i64_w, i32_w]; rw [c20b0]) | (simp only [c20b1, Bool.not_true, Bool.not_false]) | (simp only [c20b0, Bool.not_true, Bool.not_false]) | skip)
          simp only [Option.some.injEq, Prod.mk.injEq] at H
          obtain ⟨rfl, rfl⟩ := H
          go_wp2
          go_ret2
          exact ⟨by first | rfl | (simp [*, ai_, ah_] <;> rfl), bz HB.out⟩
         rw [if_pos c20] at H
         have c20b0 : (t102.toList == a0.toList) = true := beq_iff_eq.mpr c20
         have c20b1 : (t102.toList != a0.toList) = false := bne_eq_false_iff_eq.mpr c20
         clear c20
         (first | rw [c20b0] | (simp only [i64_w, i32_w]; rw [c20b0]) | (simp only [c20b1, Bool.not_true, Bool.not_false]) | (simp only [c20b0, Bool.not_true, Bool.not_false]) | skip)
         simp only [Option.some.injEq, Prod.mk.injEq] at H
         obtain ⟨rfl, rfl⟩ := H
         go_wp2
         go_ret2
         exact ⟨by first | rfl | (simp [*, ai_, ah_] <;> rfl), bz HB.out⟩
        rw [if_pos c9] at H
        have c9b0 : decide (x6_3 < (x4_2.size : Int)) = true := decide_eq_true c9
        clear c9
        by_cases c10 : 0 ≤ x6_3
        rotate_left
        ·rw [if_neg c10] at H
         exact absurd H (by simp)
        rw [if_pos c10] at H
        have c10b0 : decide (0 ≤ x6_3) = true := decide_eq_true c10
        clear c10
        by_cases c12 : (bt x4_2 x6_3) < 48
        rotate_left
        ·rw [if_neg c12] at H
         have c12b0 : decide ((bt x4_2 x6_3) < 48) = false := decide_eq_false c12
         clear c12
         by_cases c14 : (bt x4_2 x6_3) > 57
         rotate_left
         ·rw [if_neg c14] at H
          have c14b0 : decide (57 < (bt x4_2 x6_3)) = false := decide_eq_false c14
          clear c14
          have H' := Aside0.mk H
          clear H
          have p11 : 0 ≤ (x6_3 : Int) := of_decide_eq_true (by assumption)
          have q11 : x6_3 < (x4_2.size : Int) := of_decide_eq_true (by assumption)
          have hx11 := bt_at x4_2 x6_3
          replace p11 := eq_true p11
          replace q11 := eq_true q11
          have p13 : 0 ≤ (x6_3 : Int) := of_decide_eq_true (by assumption)
          have q13 : x6_3 < (x4_2.size : Int) := of_decide_eq_true (by assumption)
          have hx13 := bt_at x4_2 x6_3
          replace p13 := eq_true p13
          replace q13 := eq_true q13
          have p15 : 0 ≤ (x6_3 : Int) := of_decide_eq_true (by assumption)
          have q15 : x6_3 < (x4_2.size : Int) := of_decide_eq_true (by assumption)
          have hx15 := bt_at x4_2 x6_3
          replace p15 := eq_true p15
          replace q15 := eq_true q15
          go_wp2
          go_roundg k3
          case measure => have := HJ2.out; have := HJ5.out; have := HK3.out; omega
          case rel => exact ⟨(wrap64 ((wrap64 (x5_3 * 10)) + (((bt x4_2 x6_3) - 48) % 256))), (wrap64 (x6_3 + 1)), (by first | rfl | (simp; done) | (simp [*]; done)), (by first | rfl | (simp; done) | (simp [*]; done)), H', ⟨by have := HJ2.out; have := HJ5.out; have := HK3.out; omega⟩, ⟨bz HB.out⟩⟩
         rw [if_pos c14] at H
         have c14b0 : decide (57 < (bt x4_2 x6_3)) = true := decide_eq_true c14
         clear c14
         simp only [Option.some.injEq, Prod.mk.injEq] at H
         obtain ⟨rfl, rfl⟩ := H
         have p11 : 0 ≤ (x6_3 : Int) := of_decide_eq_true (by assumption)
         have q11 : x6_3 < (x4_2.size : Int) := of_decide_eq_true (by assumption)
         have hx11 := bt_at x4_2 x6_3
         replace p11 := eq_true p11
         replace q11 := eq_true q11
         have p13 : 0 ≤ (x6_3 : Int) := of_decide_eq_true (by assumption)
         have q13 : x6_3 < (x4_2.size : Int) := of_decide_eq_true (by assumption)
         have hx13 := bt_at x4_2 x6_3
         replace p13 := eq_true p13
         replace q13 := eq_true q13
         go_wp2
         go_ret2
         exact ⟨by first | rfl | (simp [*, ai_, ah_] <;> rfl), bz HB.out⟩
        rw [if_pos c12] at H
        have c12b0 : decide ((bt x4_2 x6_3) < 48) = true := decide_eq_true c12
        clear c12
        simp only [Option.some.injEq, Prod.mk.injEq] at H
        obtain ⟨rfl, rfl⟩ := H
        have p11 : 0 ≤ (x6_3 : Int) := of_decide_eq_true (by assumption)
        have q11 : x6_3 < (x4_2.size : Int) := of_decide_eq_true (by assumption)
        have hx11 := bt_at x4_2 x6_3
        replace p11 := eq_true p11
        replace q11 := eq_true q11
        go_wp2
        go_ret2
        exact ⟨by first | rfl | (simp [*, ai_, ah_] <;> rfl), bz HB.out⟩
     subst c8
     have H1 : (some (0, false)) = some (r1, r2) := by rw [if_pos rfl] at H; exact H
     clear H
     have H := H1
     clear H1
     simp only [Option.some.injEq, Prod.mk.injEq] at H
     obtain ⟨rfl, rfl⟩ := H
     go_wp2
     go_ret2
     exact ⟨by first | rfl | (simp [*, ai_, ah_] <;> rfl), bz HB.out⟩
def cn_.f (a0 : ByteArray) : Option (Int × Int × Int × Int) := if a0.toList = ([97, 115, 104] : List UInt8) then (some (20, 40, 310, 0)) else (if a0.toList = ([98, 101, 101, 99, 104] : List UInt8) then (some (35, 45, 410, 0)) else (if a0.toList = ([98, 105, 114, 99, 104] : List UInt8) then (some (15, 33, 280, 0)) else (if a0.toList = ([99, 104, 101, 114, 114, 121] : List UInt8) then (some (50, 36, 240, 0)) else (if a0.toList = ([101, 98, 111, 110, 121] : List UInt8) then (some (95, 85, 270, 0)) else (if a0.toList = ([104, 111, 108, 108, 121] : List UInt8) then (some (5, 35, 370, 0)) else (if a0.toList = ([109, 97, 112, 108, 101] : List UInt8) then (some (10, 42, 290, 0)) else (if a0.toList = ([111, 97, 107] : List UInt8) then (some (40, 40, 330, 0)) else (if a0.toList = ([114, 111, 115, 101, 119, 111, 111, 100] : List UInt8) then (some (80, 60, 220, 0)) else (if a0.toList = ([119, 97, 108, 110, 117, 116] : List UInt8) then (some (70, 38, 260, 0)) else (some (0, 0, 0, 3)))))))))))
set_option maxHeartbeats 8000000 in
set_option maxRecDepth 100000 in
theorem cn_.calls (a0 : ByteArray) (r1 : Int) (r2 : Int) (r3 : Int) (r4 : Int) (w : World) (h : cn_.f a0 = some (r1, r2, r3, r4)) :
  Calls Tryz.prog 88 #[.string a0] w fun e w' => e = .returned (.tuple #[.int .i64 r1, .int .i64 r2, .int .i64 r3, .int .i64 r4]) ∧ ap_ w w' := by
 have H : (if a0.toList = ([97, 115, 104] : List UInt8) then (some (20, 40, 310, 0)) else (if a0.toList = ([98, 101, 101, 99, 104] : List UInt8) then (some (35, 45, 410, 0)) else (if a0.toList = ([98, 105, 114, 99, 104] : List UInt8) then (some (15, 33, 280, 0)) else (if a0.toList = ([99, 104, 101, 114, 114, 121] : List UInt8) then (some (50, 36, 240, 0)) else (if a0.toList = ([101, 98, 111, 110, 121] : List UInt8) then (some (95, 85, 270, 0)) else (if a0.toList = ([104, 111, 108, 108, 121] : List UInt8) then (some (5, 35, 370, 0)) else (if a0.toList = ([109, 97, 112, 108, 101] : List UInt8) then (some (10, 42, 290, 0)) else (if a0.toList = ([111, 97, 107] : List UInt8) then (some (40, 40, 330, 0)) else (if a0.toList = ([114, 111, 115, 101, 119, 111, 111, 100] : List UInt8) then (some (80, 60, 220, 0)) else (if a0.toList = ([119, 97, 108, 110, 117, 116] : List UInt8) then (some (70, 38, 260, 0)) else (some (0, 0, 0, 3)))))))))))) = some (r1, r2, r3, r4) := h
 clear h
 by_cases c2 : a0.toList = ([97, 115, 104] : List UInt8)
 rotate_left
 ·rw [if_neg c2] at H
  have c2b0 : (a0.toList == ([97, 115, 104] : List UInt8)) = false := beq_eq_false_iff_ne.mpr c2
  have c2b1 : (a0.toList != ([97, 115, 104] : List UInt8)) = true := bne_iff_ne.mpr c2
  by_cases c3 : a0.toList = ([98, 101, 101, 99, 104] : List UInt8)
  rotate_left
  ·rw [if_neg c3] at H
   have c3b0 : (a0.toList == ([98, 101, 101, 99, 104] : List UInt8)) = false := beq_eq_false_iff_ne.mpr c3
   have c3b1 : (a0.toList != ([98, 101, 101, 99, 104] : List UInt8)) = true := bne_iff_ne.mpr c3
   by_cases c4 : a0.toList = ([98, 105, 114, 99, 104] : List UInt8)
   rotate_left
   ·rw [if_neg c4] at H
    have c4b0 : (a0.toList == ([98, 105, 114, 99, 104] : List UInt8)) = false := beq_eq_false_iff_ne.mpr c4
    have c4b1 : (a0.toList != ([98, 105, 114, 99, 104] : List UInt8)) = true := bne_iff_ne.mpr c4
    by_cases c5 : a0.toList = ([99, 104, 101, 114, 114, 121] : List UInt8)
    rotate_left
    ·rw [if_neg c5] at H
     have c5b0 : (a0.toList == ([99, 104, 101, 114, 114, 121] : List UInt8)) = false := beq_eq_false_iff_ne.mpr c5
     have c5b1 : (a0.toList != ([99, 104, 101, 114, 114, 121] : List UInt8)) = true := bne_iff_ne.mpr c5
     by_cases c6 : a0.toList = ([101, 98, 111, 110, 121] : List UInt8)
     rotate_left
     ·rw [if_neg c6] at H
      have c6b0 : (a0.toList == ([101, 98, 111, 110, 121] : List UInt8)) = false := beq_eq_false_iff_ne.mpr c6
      have c6b1 : (a0.toList != ([101, 98, 111, 110, 121] : List UInt8)) = true := bne_iff_ne.mpr c6
      by_cases c7 : a0.toList = ([104, 111, 108, 108, 121] : List UInt8)
      rotate_left
      ·rw [if_neg c7] at H
       have c7b0 : (a0.toList == ([104, 111, 108, 108, 121] : List UInt8)) = false := beq_eq_false_iff_ne.mpr c7
       have c7b1 : (a0.toList != ([104, 111, 108, 108, 121] : List UInt8)) = true := bne_iff_ne.mpr c7
       by_cases c8 : a0.toList = ([109, 97, 112, 108, 101] : List UInt8)
       rotate_left
       ·rw [if_neg c8] at H
        have c8b0 : (a0.toList == ([109, 97, 112, 108, 101] : List UInt8)) = false := beq_eq_false_iff_ne.mpr c8
        have c8b1 : (a0.toList != ([109, 97, 112, 108, 101] : List UInt8)) = true := bne_iff_ne.mpr c8
        by_cases c9 : a0.toList = ([111, 97, 107] : List UInt8)
        rotate_left
        ·rw [if_neg c9] at H
         have c9b0 : (a0.toList == ([111, 97, 107] : List UInt8)) = false := beq_eq_false_iff_ne.mpr c9
         have c9b1 : (a0.toList != ([111, 97, 107] : List UInt8)) = true := bne_iff_ne.mpr c9
         by_cases c10 : a0.toList = ([114, 111, 115, 101, 119, 111, 111, 100] : List UInt8)
         rotate_left
         ·rw [if_neg c10] at H
          have c10b0 : (a0.toList == ([114, 111, 115, 101, 119, 111, 111, 100] : List UInt8)) = false := beq_eq_false_iff_ne.mpr c10
          have c10b1 : (a0.toList != ([114, 111, 115, 101, 119, 111, 111, 100] : List UInt8)) = true := bne_iff_ne.mpr c10
          by_cases c11 : a0.toList = ([119, 97, 108, 110, 117, 116] : List UInt8)
          rotate_left
          ·rw [if_neg c11] at H
           have c11b0 : (a0.toList == ([119, 97, 108, 110, 117, 116] : List UInt8)) = false := beq_eq_false_iff_ne.mpr c11
           have c11b1 : (a0.toList != ([119, 97, 108, 110, 117, 116] : List UInt8)) = true := bne_iff_ne.mpr c11
           simp only [Option.some.injEq, Prod.mk.injEq] at H
           obtain ⟨rfl, rfl, rfl, rfl⟩ := H
           go_enter Tryz.func88, Tryz.ntmps88
           go_wp2
           refine bodyPost_ret (ci_ (rs := [.tmp 2, .tmp 3, .tmp 4, .tmp 5]) rfl (by simp) (.tmp (.tmp (.tmp (.tmp .nil))))) rfl ?_
           exact ⟨by first | rfl | (simp; done) | (simp [*]; done), by repeat (first | exact ap_.refl _ | apply ap_.step)⟩
          rw [if_pos c11] at H
          have c11b0 : (a0.toList == ([119, 97, 108, 110, 117, 116] : List UInt8)) = true := beq_iff_eq.mpr c11
          have c11b1 : (a0.toList != ([119, 97, 108, 110, 117, 116] : List UInt8)) = false := bne_eq_false_iff_eq.mpr c11
          clear c11
          simp only [Option.some.injEq, Prod.mk.injEq] at H
          obtain ⟨rfl, rfl, rfl, rfl⟩ := H
          go_enter Tryz.func88, Tryz.ntmps88
          go_wp2
          refine bodyPost_ret (ci_ (rs := [.tmp 2, .tmp 3, .tmp 4, .tmp 5]) rfl (by simp) (.tmp (.tmp (.tmp (.tmp .nil))))) rfl ?_
          exact ⟨by first | rfl | (simp; done) | (simp [*]; done), by repeat (first | exact ap_.refl _ | apply ap_.step)⟩
         rw [if_pos c10] at H
         have c10b0 : (a0.toList == ([114, 111, 115, 101, 119, 111, 111, 100] : List UInt8)) = true := beq_iff_eq.mpr c10
         have c10b1 : (a0.toList != ([114, 111, 115, 101, 119, 111, 111, 100] : List UInt8)) = false := bne_eq_false_iff_eq.mpr c10
         clear c10
         simp only [Option.some.injEq, Prod.mk.injEq] at H
         obtain ⟨rfl, rfl, rfl, rfl⟩ := H
         go_enter Tryz.func88, Tryz.ntmps88
         go_wp2
         refine bodyPost_ret (ci_ (rs := [.tmp 2, .tmp 3, .tmp 4, .tmp 5]) rfl (by simp) (.tmp (.tmp (.tmp (.tmp .nil))))) rfl ?_
         exact ⟨by first | rfl | (simp; done) | (simp [*]; done), by repeat (first | exact ap_.refl _ | apply ap_.step)⟩
        rw [if_pos c9] at H
        have c9b0 : (a0.toList == ([111, 97, 107] : List UInt8)) = true := beq_iff_eq.mpr c9
        have c9b1 : (a0.toList != ([111, 97, 107] : List UInt8)) = false := bne_eq_false_iff_eq.mpr c9
        clear c9
        simp only [Option.some.injEq, Prod.mk.injEq] at H
        obtain ⟨rfl, rfl, rfl, rfl⟩ := H
        go_enter Tryz.func88, Tryz.ntmps88
        go_wp2
        refine bodyPost_ret (ci_ (rs := [.tmp 2, .tmp 3, .tmp 4, .tmp 5]) rfl (by simp) (.tmp (.tmp (.tmp (.tmp .nil))))) rfl ?_
        exact ⟨by first | rfl | (simp; done) | (simp [*]; done), by repeat (first | exact ap_.refl _ | apply ap_.step)⟩
       rw [if_pos c8] at H
       have c8b0 : (a0.toList == ([109, 97, 112, 108, 101] : List UInt8)) = true := beq_iff_eq.mpr c8
       have c8b1 : (a0.toList != ([109, 97, 112, 108, 101] : List UInt8)) = false := bne_eq_false_iff_eq.mpr c8
       clear c8
       simp only [Option.some.injEq, Prod.mk.injEq] at H
       obtain ⟨rfl, rfl, rfl, rfl⟩ := H
       go_enter Tryz.func88, Tryz.ntmps88
       go_wp2
       refine bodyPost_ret (ci_ (rs := [.tmp 2, .tmp 3, .tmp 4, .tmp 5]) rfl (by simp) (.tmp (.tmp (.tmp (.tmp .nil))))) rfl ?_
       exact ⟨by first | rfl | (simp; done) | (simp [*]; done), by repeat (first | exact ap_.refl _ | apply ap_.step)⟩
      rw [if_pos c7] at H
      have c7b0 : (a0.toList == ([104, 111, 108, 108, 121] : List UInt8)) = true := beq_iff_eq.mpr c7
      have c7b1 : (a0.toList != ([104, 111, 108, 108, 121] : List UInt8)) = false := bne_eq_false_iff_eq.mpr c7
      clear c7
      simp only [Option.some.injEq, Prod.mk.injEq] at H
      obtain ⟨rfl, rfl, rfl, rfl⟩ := H
      go_enter Tryz.func88, Tryz.ntmps88
      go_wp2
      refine bodyPost_ret (ci_ (rs := [.tmp 2, .tmp 3, .tmp 4, .tmp 5]) rfl (by simp) (.tmp (.tmp (.tmp (.tmp .nil))))) rfl ?_
      exact ⟨by first | rfl | (simp; done) | (simp [*]; done), by repeat (first | exact ap_.refl _ | apply ap_.step)⟩
     rw [if_pos c6] at H
     have c6b0 : (a0.toList == ([101, 98, 111, 110, 121] : List UInt8)) = true := beq_iff_eq.mpr c6
     have c6b1 : (a0.toList != ([101, 98, 111, 110, 121] : List UInt8)) = false := bne_eq_false_iff_eq.mpr c6
     clear c6
     simp only [Option.some.injEq, Prod.mk.injEq] at H
     obtain ⟨rfl, rfl, rfl, rfl⟩ := H
     go_enter Tryz.func88, Tryz.ntmps88
     go_wp2
     refine bodyPost_ret (ci_ (rs := [.tmp 2, .tmp 3, .tmp 4, .tmp 5]) rfl (by simp) (.tmp (.tmp (.tmp (.tmp .nil))))) rfl ?_
     exact ⟨by first | rfl | (simp; done) | (simp [*]; done), by repeat (first | exact ap_.refl _ | apply ap_.step)⟩
    rw [if_pos c5] at H
    have c5b0 : (a0.toList == ([99, 104, 101, 114, 114, 121] : List UInt8)) = true := beq_iff_eq.mpr c5
    have c5b1 : (a0.toList != ([99, 104, 101, 114, 114, 121] : List UInt8)) = false := bne_eq_false_iff_eq.mpr c5
    clear c5
    simp only [Option.some.injEq, Prod.mk.injEq] at H
    obtain ⟨rfl, rfl, rfl, rfl⟩ := H
    go_enter Tryz.func88, Tryz.ntmps88
    go_wp2
    refine bodyPost_ret (ci_ (rs := [.tmp 2, .tmp 3, .tmp 4, .tmp 5]) rfl (by simp) (.tmp (.tmp (.tmp (.tmp .nil))))) rfl ?_
    exact ⟨by first | rfl | (simp; done) | (simp [*]; done), by repeat (first | exact ap_.refl _ | apply ap_.step)⟩
   rw [if_pos c4] at H
   have c4b0 : (a0.toList == ([98, 105, 114, 99, 104] : List UInt8)) = true := beq_iff_eq.mpr c4
   have c4b1 : (a0.toList != ([98, 105, 114, 99, 104] : List UInt8)) = false := bne_eq_false_iff_eq.mpr c4
   clear c4
   simp only [Option.some.injEq, Prod.mk.injEq] at H
   obtain ⟨rfl, rfl, rfl, rfl⟩ := H
   go_enter Tryz.func88, Tryz.ntmps88
   go_wp2
   refine bodyPost_ret (ci_ (rs := [.tmp 2, .tmp 3, .tmp 4, .tmp 5]) rfl (by simp) (.tmp (.tmp (.tmp (.tmp .nil))))) rfl ?_
   exact ⟨by first | rfl | (simp; done) | (simp [*]; done), by repeat (first | exact ap_.refl _ | apply ap_.step)⟩
  rw [if_pos c3] at H
  have c3b0 : (a0.toList == ([98, 101, 101, 99, 104] : List UInt8)) = true := beq_iff_eq.mpr c3
  have c3b1 : (a0.toList != ([98, 101, 101, 99, 104] : List UInt8)) = false := bne_eq_false_iff_eq.mpr c3
  clear c3
  simp only [Option.some.injEq, Prod.mk.injEq] at H
  obtain ⟨rfl, rfl, rfl, rfl⟩ := H
  go_enter Tryz.func88, Tryz.ntmps88
  go_wp2
  refine bodyPost_ret (ci_ (rs := [.tmp 2, .tmp 3, .tmp 4, .tmp 5]) rfl (by simp) (.tmp (.tmp (.tmp (.tmp .nil))))) rfl ?_
  exact ⟨by first | rfl | (simp; done) | (simp [*]; done), by repeat (first | exact ap_.refl _ | apply ap_.step)⟩
 rw [if_pos c2] at H
 have c2b0 : (a0.toList == ([97, 115, 104] : List UInt8)) = true := beq_iff_eq.mpr c2
 have c2b1 : (a0.toList != ([97, 115, 104] : List UInt8)) = false := bne_eq_false_iff_eq.mpr c2
 clear c2
 simp only [Option.some.injEq, Prod.mk.injEq] at H
 obtain ⟨rfl, rfl, rfl, rfl⟩ := H
 go_enter Tryz.func88, Tryz.ntmps88
 go_wp2
 refine bodyPost_ret (ci_ (rs := [.tmp 2, .tmp 3, .tmp 4, .tmp 5]) rfl (by simp) (.tmp (.tmp (.tmp (.tmp .nil))))) rfl ?_
 exact ⟨by first | rfl | (simp; done) | (simp [*]; done), by repeat (first | exact ap_.refl _ | apply ap_.step)⟩
def bK_.f (a0 : ByteArray) : Option (Int × Bool) := (cn_.f a0).bind fun bt101 => (some (bt101.1, (bt101.2.2.2 == 0)))
set_option maxHeartbeats 8000000 in
set_option maxRecDepth 100000 in
theorem bK_.calls (a0 : ByteArray) (r1 : Int) (r2 : Bool) (w : World) (h : bK_.f a0 = some (r1, r2)) :
  Calls Tryz.prog 71 #[.string a0] w fun e w' => e = .returned (.tuple #[.int .i64 r1, .bool r2]) ∧ ap_ w w' := by
 have H : ((cn_.f a0).bind fun bt101 => (some (bt101.1, (bt101.2.2.2 == 0)))) = some (r1, r2) := h
 clear h
 replace H := Option.bind_eq_some_iff.mp H
 obtain ⟨⟨t101, t102, t103, t104⟩, A20, H⟩ := H
 (try dsimp only at H)
 have A2 := Aside0.mk A20
 clear A20
 simp only [Option.some.injEq, Prod.mk.injEq] at H
 obtain ⟨rfl, rfl⟩ := H
 go_enter Tryz.func71, Tryz.ntmps71
 go_wp2_with (first | ((with_reducible refine af_ (f := 88) rfl ?_); refine aJ_ (some 10) rfl rfl Tryz.func88 (by kernel_rfl) rfl #[.string a0] rfl (by first | rfl | (simp only [lma_, lmc_, lmn_]; first | done | rfl)) ?_; (with_reducible refine (cn_.calls a0 t101 t102 t103 t104 _ A2.out).mono ?_); rintro e w' ⟨rfl, ⟨nd, rfl⟩⟩; refine ⟨_, rfl, ?_⟩))
 go_ret2
 exact ⟨by first | rfl | (simp; done) | (simp [*]; done), by repeat (first | exact ap_.refl _ | apply ap_.step)⟩
def ar_.f (a0 : Int) (a1 : Int) (a2 : Int) : Option (Bool) := if a0 ≥ a1 then (some (decide (a0 ≤ a2))) else (some false)
set_option maxHeartbeats 8000000 in
set_option maxRecDepth 100000 in
theorem ar_.calls (a0 : Int) (a1 : Int) (a2 : Int) (r : Bool) (w : World) (h : ar_.f a0 a1 a2 = some r) :
  Calls Tryz.prog 72 #[.int .i64 a0, .int .i64 a1, .int .i64 a2] w fun e w' => e = .returned (.bool r) ∧ ap_ w w' := by
 have H : (if a0 ≥ a1 then (some (decide (a0 ≤ a2))) else (some false)) = some r := h
 clear h
 by_cases c4 : a0 ≥ a1
 rotate_left
 ·rw [if_neg c4] at H
  have c4b0 : decide (a1 ≤ a0) = false := decide_eq_false c4
  clear c4
  obtain rfl := Option.some.inj H
  go_enter Tryz.func72, Tryz.ntmps72
  go_wp2
  go_ret
  exact ⟨by first | rfl | (simp; done) | (simp [*]; done), by repeat (first | exact ap_.refl _ | apply ap_.step)⟩
 rw [if_pos c4] at H
 have c4b0 : decide (a1 ≤ a0) = true := decide_eq_true c4
 clear c4
 obtain rfl := Option.some.inj H
 go_enter Tryz.func72, Tryz.ntmps72
 go_wp2
 go_ret
 exact ⟨by first | rfl | (simp; done) | (simp [*]; done), by repeat (first | exact ap_.refl _ | apply ap_.step)⟩
def bh_.f (a0_0 : ByteArray) (a0_1 : Int) (a0_2 : Int) : Option (Bool) := (bK_.f a0_0).bind fun bt102 => (if bt102.2 = true then ((ar_.f a0_1 0 100).bind fun t104 => (if t104 = true then ((ar_.f (wrap64 (a0_1 - bt102.1)) (-15) 15).bind fun t105 => (if t105 = true then ((ar_.f a0_2 0 179).bind fun t106 => (some t106)) else (some false))) else (some false))) else (some false))
set_option maxHeartbeats 8000000 in
set_option maxRecDepth 100000 in
theorem bh_.calls (a0_0 : ByteArray) (a0_1 : Int) (a0_2 : Int) (r : Bool) (w : World) (h : bh_.f a0_0 a0_1 a0_2 = some r) :
  Calls Tryz.prog 53 #[.agg #[.string a0_0, .int .i64 a0_1, .int .i64 a0_2]] w fun e w' => e = .returned (.bool r) ∧ Below w.heap.size w w' := by
 have hu40 := Tryz.underlying40
 have HB := Aside0.mk (Below.refl w.heap.size w)
 have H : ((bK_.f a0_0).bind fun bt102 => (if bt102.2 = true then ((ar_.f a0_1 0 100).bind fun t104 => (if t104 = true then ((ar_.f (wrap64 (a0_1 - bt102.1)) (-15) 15).bind fun t105 => (if t105 = true then ((ar_.f a0_2 0 179).bind fun t106 => (some t106)) else (some false))) else (some false))) else (some false))) = some r := h
 clear h
 replace H := Option.bind_eq_some_iff.mp H
 obtain ⟨⟨t102, t103⟩, A20, H⟩ := H
 (try dsimp only at H)
 have A2 := Aside0.mk A20
 clear A20
 by_cases c3 : t103 = true
 rotate_left
 ·replace c3 := Bool.eq_false_iff.mpr c3
  subst c3
  have H1 : (some false) = some r := by rw [if_neg (show ¬ (false = true) by decide)] at H; exact H
  clear H
  have H := H1
  clear H1
  obtain rfl := Option.some.inj H
  go_enter Tryz.func53, Tryz.ntmps53
  go_wp2_with (first | ((with_reducible refine aI_ (N := 1) rfl ?_); refine aR_ ?hg (N := 1) ?hd (cs := #[.string a0_0, .int .i64 a0_1, .int .i64 a0_2]) (t := 40) ?hr ?_; (case hd => rfl); (case hg => rfl); (case hr => (go_simp; try rfl)); intro gb101 hg w15 hbox hb; have BK101 := Aside0.mk (hbox); have GW101 := Aside0.mk ((by rw [hg]; exact (ad_ (bz HB.out)) : w.heap.size ≤ gb101)); have GE101 := Aside0.mk ((by rw [hg]; exact (ad_ (bz HB.out)) : w.heap.size ≤ gb101)); replace HB := Aside0.mk (ac_ (bz HB.out) hb); clear hb hbox hg; obtain ⟨hcz16_0, hcz16_1, hcz16_2⟩ := cz3_ BK101.out; obtain ⟨hfz16_0, hfz16_1, hfz16_2⟩ := fz3_ BK101.out) | ((with_reducible refine af_ (f := 71) rfl ?_); refine aJ_ (some 8) rfl rfl Tryz.func71 (by kernel_rfl) rfl #[.string a0_0] rfl (by first | rfl | (simp only [lma_, lmc_, lmn_]; first | done | rfl)) ?_; (with_reducible refine (bK_.calls a0_0 t102 false _ A2.out).mono ?_); rintro e w' ⟨rfl, ⟨nd, rfl⟩⟩; refine ⟨_, rfl, ?_⟩))
  go_ret
  exact ⟨by first | rfl | (simp [*, ai_, ah_] <;> rfl), by repeat (first | (with_reducible first | exact HB.out | apply bA_ | apply bN_ | apply bD_ | refine aa_ ?_ GE101.out))⟩
 subst c3
 have H1 : ((ar_.f a0_1 0 100).bind fun t104 => (if t104 = true then ((ar_.f (wrap64 (a0_1 - t102)) (-15) 15).bind fun t105 => (if t105 = true then ((ar_.f a0_2 0 179).bind fun t106 => (some t106)) else (some false))) else (some false))) = some r := by rw [if_pos rfl] at H; exact H
 clear H
 have H := H1
 clear H1
 replace H := Option.bind_eq_some_iff.mp H
 obtain ⟨t104, A40, H⟩ := H
 (try dsimp only at H)
 have A4 := Aside0.mk A40
 clear A40
 by_cases c5 : t104 = true
 rotate_left
 ·replace c5 := Bool.eq_false_iff.mpr c5
  subst c5
  have H1 : (some false) = some r := by rw [if_neg (show ¬ (false = true) by decide)] at H; exact H
  clear H
  have H := H1
  clear H1
  obtain rfl := Option.some.inj H
  go_enter Tryz.func53, Tryz.ntmps53
  go_wp2_with (first | ((with_reducible refine aI_ (N := 1) rfl ?_); refine aR_ ?hg (N := 1) ?hd (cs := #[.string a0_0, .int .i64 a0_1, .int .i64 a0_2]) (t := 40) ?hr ?_; (case hd => rfl); (case hg => rfl); (case hr => (go_simp; try rfl)); intro gb101 hg w13 hbox hb; have BK101 := Aside0.mk (hbox); have GW101 := Aside0.mk ((by rw [hg]; exact (ad_ (bz HB.out)) : w.heap.size ≤ gb101)); have GE101 := Aside0.mk ((by rw [hg]; exact (ad_ (bz HB.out)) : w.heap.size ≤ gb101)); replace HB := Aside0.mk (ac_ (bz HB.out) hb); clear hb hbox hg; obtain ⟨hcz14_0, hcz14_1, hcz14_2⟩ := cz3_ BK101.out; obtain ⟨hfz14_0, hfz14_1, hfz14_2⟩ := fz3_ BK101.out) | ((with_reducible refine af_ (f := 71) rfl ?_); refine aJ_ (some 8) rfl rfl Tryz.func71 (by kernel_rfl) rfl #[.string a0_0] rfl (by first | rfl | (simp only [lma_, lmc_, lmn_]; first | done | rfl)) ?_; (with_reducible refine (bK_.calls a0_0 t102 true _ A2.out).mono ?_); rintro e w' ⟨rfl, ⟨nd, rfl⟩⟩; refine ⟨_, rfl, ?_⟩) | (go_at_call 72; (with_reducible refine (ar_.calls a0_1 0 100 false _ A4.out).mono ?_); rintro e w' ⟨rfl, ⟨nd, rfl⟩⟩))
  go_ret
  exact ⟨by first | rfl | (simp [*, ai_, ah_] <;> rfl), by repeat (first | (with_reducible first | exact HB.out | apply bA_ | apply bN_ | apply bD_ | refine aa_ ?_ GE101.out))⟩
 subst c5
 have H1 : ((ar_.f (wrap64 (a0_1 - t102)) (-15) 15).bind fun t105 => (if t105 = true then ((ar_.f a0_2 0 179).bind fun t106 => (some t106)) else (some false))) = some r := by rw [if_pos rfl] at H; exact H
 clear H
 have H := H1
 clear H1
 replace H := Option.bind_eq_some_iff.mp H
 obtain ⟨t105, A60, H⟩ := H
 (try dsimp only at H)
 have A6 := Aside0.mk A60
 clear A60
 by_cases c7 : t105 = true
 rotate_left
 ·replace c7 := Bool.eq_false_iff.mpr c7
  subst c7
  have H1 : (some false) = some r := by rw [if_neg (show ¬ (false = true) by decide)] at H; exact H
  clear H
  have H := H1
  clear H1
  obtain rfl := Option.some.inj H
  go_enter Tryz.func53, Tryz.ntmps53
  go_wp2_with (first | ((with_reducible refine aI_ (N := 1) rfl ?_); refine aR_ ?hg (N := 1) ?hd (cs := #[.string a0_0, .int .i64 a0_1, .int .i64 a0_2]) (t := 40) ?hr ?_; (case hd => rfl); (case hg => rfl); (case hr => (go_simp; try rfl)); intro gb101 hg w11 hbox hb; have BK101 := Aside0.mk (hbox); have GW101 := Aside0.mk ((by rw [hg]; exact (ad_ (bz HB.out)) : w.heap.size ≤ gb101)); have GE101 := Aside0.mk ((by rw [hg]; exact (ad_ (bz HB.out)) : w.heap.size ≤ gb101)); replace HB := Aside0.mk (ac_ (bz HB.out) hb); clear hb hbox hg; obtain ⟨hcz12_0, hcz12_1, hcz12_2⟩ := cz3_ BK101.out; obtain ⟨hfz12_0, hfz12_1, hfz12_2⟩ := fz3_ BK101.out) | ((with_reducible refine af_ (f := 71) rfl ?_); refine aJ_ (some 8) rfl rfl Tryz.func71 (by kernel_rfl) rfl #[.string a0_0] rfl (by first | rfl | (simp only [lma_, lmc_, lmn_]; first | done | rfl)) ?_; (with_reducible refine (bK_.calls a0_0 t102 true _ A2.out).mono ?_); rintro e w' ⟨rfl, ⟨nd, rfl⟩⟩; refine ⟨_, rfl, ?_⟩) | (go_at_call 72; (with_reducible refine (ar_.calls a0_1 0 100 true _ A4.out).mono ?_); rintro e w' ⟨rfl, ⟨nd, rfl⟩⟩) | (go_at_call 72; (with_reducible refine (ar_.calls (wrap64 (a0_1 - t102)) (-15) 15 false _ A6.out).mono ?_); rintro e w' ⟨rfl, ⟨nd, rfl⟩⟩))
  go_ret
  exact ⟨by first | rfl | (simp [*, ai_, ah_] <;> rfl), by repeat (first | (with_reducible first | exact HB.out | apply bA_ | apply bN_ | apply bD_ | refine aa_ ?_ GE101.out))⟩
 subst c7
 have H1 : ((ar_.f a0_2 0 179).bind fun t106 => (some t106)) = some r := by rw [if_pos rfl] at H; exact H
 clear H
 have H := H1
 clear H1
 replace H := Option.bind_eq_some_iff.mp H
 obtain ⟨t106, A80, H⟩ := H
 (try dsimp only at H)
 have A8 := Aside0.mk A80
 clear A80
 obtain rfl := Option.some.inj H
 go_enter Tryz.func53, Tryz.ntmps53
 go_wp2_with (first | ((with_reducible refine aI_ (N := 1) rfl ?_); refine aR_ ?hg (N := 1) ?hd (cs := #[.string a0_0, .int .i64 a0_1, .int .i64 a0_2]) (t := 40) ?hr ?_; (case hd => rfl); (case hg => rfl); (case hr => (go_simp; try rfl)); intro gb101 hg w9 hbox hb; have BK101 := Aside0.mk (hbox); have GW101 := Aside0.mk ((by rw [hg]; exact (ad_ (bz HB.out)) : w.heap.size ≤ gb101)); have GE101 := Aside0.mk ((by rw [hg]; exact (ad_ (bz HB.out)) : w.heap.size ≤ gb101)); replace HB := Aside0.mk (ac_ (bz HB.out) hb); clear hb hbox hg; obtain ⟨hcz10_0, hcz10_1, hcz10_2⟩ := cz3_ BK101.out; obtain ⟨hfz10_0, hfz10_1, hfz10_2⟩ := fz3_ BK101.out) | ((with_reducible refine af_ (f := 71) rfl ?_); refine aJ_ (some 8) rfl rfl Tryz.func71 (by kernel_rfl) rfl #[.string a0_0] rfl (by first | rfl | (simp only [lma_, lmc_, lmn_]; first | done | rfl)) ?_; (with_reducible refine (bK_.calls a0_0 t102 true _ A2.out).mono ?_); rintro e w' ⟨rfl, ⟨nd, rfl⟩⟩; refine ⟨_, rfl, ?_⟩) | (go_at_call 72; (with_reducible refine (ar_.calls a0_1 0 100 true _ A4.out).mono ?_); rintro e w' ⟨rfl, ⟨nd, rfl⟩⟩) | (go_at_call 72; (with_reducible refine (ar_.calls (wrap64 (a0_1 - t102)) (-15) 15 true _ A6.out).mono ?_); rintro e w' ⟨rfl, ⟨nd, rfl⟩⟩) | (go_at_call 72; (with_reducible refine (ar_.calls a0_2 0 179 t106 _ A8.out).mono ?_); rintro e w' ⟨rfl, ⟨nd, rfl⟩⟩))
 go_ret
 exact ⟨by first | rfl | (simp [*, ai_, ah_] <;> rfl), by repeat (first | (with_reducible first | exact HB.out | apply bA_ | apply bN_ | apply bD_ | refine aa_ ?_ GE101.out))⟩
def ch_.f (k : Nat) (a0 : ByteArray) : Option (ByteArray × Int × Int × Bool) := (strings_Split.f a0 (⟨#[32]⟩ : ByteArray)).bind fun t102 => (if (t102.length : Int) = 3 then (if 1 < (t102.length : Int) then ((ak_.f k (rdOf ByteArray.empty t102 1)).bind fun bt106 => (if 2 < (t102.length : Int) then ((ak_.f k (rdOf ByteArray.empty t102 2)).bind fun bt109 => (if 0 < (t102.length : Int) then (if bt106.2 = true then (if bt109.2 = true then ((bh_.f (rdOf ByteArray.empty t102 0) bt106.1 bt109.1).bind fun t113 => (if t113 = true then (some (rdOf ByteArray.empty t102 0, bt106.1, bt109.1, true)) else (some ((⟨#[]⟩ : ByteArray), 0, 0, false)))) else (some ((⟨#[]⟩ : ByteArray), 0, 0, false))) else (some ((⟨#[]⟩ : ByteArray), 0, 0, false))) else (none))) else (none))) else (none)) else (some ((⟨#[]⟩ : ByteArray), 0, 0, false)))
set_option maxHeartbeats 8000000 in
set_option maxRecDepth 100000 in
theorem ch_.calls (k : Nat) (a0 : ByteArray) (r1 : ByteArray) (r2 : Int) (r3 : Int) (r4 : Bool) (w : World) (hTab_ : Tab_ w) (h : ch_.f k a0 = some (r1, r2, r3, r4)) :
  Calls Tryz.prog 36 #[.string a0] w fun e w' => e = .returned (.tuple #[.agg #[.string r1, .int .i64 r2, .int .i64 r3], .bool r4]) ∧ Below w.heap.size w w' := by
 have hu40 := Tryz.underlying40
 have HTab_ := Aside0.mk hTab_
 clear hTab_
 have HB := Aside0.mk (Below.refl w.heap.size w)
 have H : ((strings_Split.f a0 (⟨#[32]⟩ : ByteArray)).bind fun t102 => (if (t102.length : Int) = 3 then (if 1 < (t102.length : Int) then ((ak_.f k (rdOf ByteArray.empty t102 1)).bind fun bt106 => (if 2 < (t102.length : Int) then ((ak_.f k (rdOf ByteArray.empty t102 2)).bind fun bt109 => (if 0 < (t102.length : Int) then (if bt106.2 = true then (if bt109.2 = true then ((bh_.f (rdOf ByteArray.empty t102 0) bt106.1 bt109.1).bind fun t113 => (if t113 = true then (some (rdOf ByteArray.empty t102 0, bt106.1, bt109.1, true)) else (some ((⟨#[]⟩ : ByteArray), 0, 0, false)))) else (some ((⟨#[]⟩ : ByteArray), 0, 0, false))) else (some ((⟨#[]⟩ : ByteArray), 0, 0, false))) else (none))) else (none))) else (none)) else (some ((⟨#[]⟩ : ByteArray), 0, 0, false)))) = some (r1, r2, r3, r4) := h
 clear h
 replace H := Option.bind_eq_some_iff.mp H
 obtain ⟨t102, A20, H⟩ := H
 (try dsimp only at H)
 have A2 := Aside0.mk A20
 clear A20
 have HC3 := Aside0.mk H
 clear H
 go_enter Tryz.func36, Tryz.ntmps36
 go_upto_if 14 with (first | ((with_reducible refine aI_ (N := 2) rfl ?_); refine aR_ ?hg (N := 2) ?hd (cs := #[.string (⟨#[]⟩ : ByteArray), .int .i64 0, .int .i64 0]) (t := 40) ?hr ?_; (case hd => rfl); (case hg => rfl); (case hr => (go_simp; try rfl)); intro gb101 hg w4 hbox hb; have BK101 := Aside0.mk (hbox); have GW101 := Aside0.mk ((by rw [hg]; exact (ad_ (bz HB.out)) : w.heap.size ≤ gb101)); have GE101 := Aside0.mk ((by rw [hg]; exact (ad_ (bz HB.out)) : w.heap.size ≤ gb101)); replace HB := Aside0.mk (ac_ (bz HB.out) hb); clear hb hbox hg) | ((with_reducible refine af_ (f := 34) rfl ?_); refine aJ_ (some 11) rfl rfl Tryz.func34 (by kernel_rfl) rfl #[.string a0, .string (⟨#[32]⟩ : ByteArray)] rfl (by first | rfl | (simp only [lma_, lmc_, lmn_]; first | done | rfl)) ?_; (with_reducible refine (strings_Split.calls a0 (⟨#[32]⟩ : ByteArray) t102 _ ?side1 A2.out).mono ?_); (case side1 => exact bc_ HTab_.out (by repeat (first | (with_reducible first | exact HB.out | apply bA_ | apply bN_ | apply bD_ | refine aa_ ?_ GE101.out)))); rintro e w5 ⟨v103, rfl, ho0, hb⟩; refine ⟨_, rfl, ?_⟩; have HO104 := Aside0.mk (Kd.bz_ ho0 (ad_ (by repeat (first | (with_reducible first | exact HB.out | apply bA_ | apply bN_ | apply bD_ | refine aa_ ?_ GE101.out))))); replace BK101 := Aside0.mk (an_ (kz BK101.out) hb); replace HB := Aside0.mk (ac_ (by repeat (first | (with_reducible first | exact HB.out | apply bA_ | apply bN_ | apply bD_ | refine aa_ ?_ GE101.out))) hb); (try clear hb); (try clear ho0); obtain ⟨Ao6, co6, eo6⟩ := Kd.bv_ HO104.out; subst eo6))
 (try simp only [Act.put, lsa_, ls0_, ls1_])
 have H := HC3.out
 clear HC3
 by_cases c7 : (t102.length : Int) = 3
 rotate_left
 ·rw [if_neg c7] at H
  have c7b0 : ((t102.length : Int) == 3) = false := beq_eq_false_iff_ne.mpr c7
  have c7b1 : ((t102.length : Int) != 3) = true := bne_iff_ne.mpr c7
  (first | rw [c7b0] | (simp only [i64_w, i32_w]; rw [c7b0]) | (simp only [c7b1, Bool.not_true, Bool.not_false]) | (simp only [c7b0, Bool.not_true, Bool.not_false]) | skip)
  simp only [Option.some.injEq, Prod.mk.injEq] at H
  obtain ⟨rfl, rfl, rfl, rfl⟩ := H
  obtain ⟨hcz41_0, hcz41_1, hcz41_2⟩ := cz3_ BK101.out
  obtain ⟨hfz41_0, hfz41_1, hfz41_2⟩ := fz3_ BK101.out
  go_wp2
  refine bodyPost_ret (bB_ rfl _ _ gb101 40 #[.string (⟨#[]⟩ : ByteArray), .int .i64 0, .int .i64 0] (0, 0) _ rfl (by exact kj3_2 (kj3_1 (kj3_0 (kz BK101.out)))) Tryz.underlying40 rfl (by kernel_rfl)) rfl ?_
  exact ⟨by first | rfl | (simp [*, ai_, ah_] <;> rfl), by repeat (first | (with_reducible first | exact HB.out | apply bA_ | apply bN_ | apply bD_ | refine aa_ ?_ GE101.out))⟩
 rw [if_pos c7] at H
 have c7b0 : ((t102.length : Int) == 3) = true := beq_iff_eq.mpr c7
 have c7b1 : ((t102.length : Int) != 3) = false := bne_eq_false_iff_eq.mpr c7
 clear c7
 (first | rw [c7b0] | (simp only [i64_w, i32_w]; rw [c7b0]) | (simp only [c7b1, Bool.not_true, Bool.not_false]) | (simp only [c7b0, Bool.not_true, Bool.not_false]) | skip)
 by_cases c8 : 1 < (t102.length : Int)
 rotate_left
 ·rw [if_neg c8] at H
  exact absurd H (by simp)
 rw [if_pos c8] at H
 have c8b0 : decide (1 < (t102.length : Int)) = true := decide_eq_true c8
 have c8b1 : decide (1 < t102.length) = true := decide_eq_true (by omega)
 clear c8
 replace H := Option.bind_eq_some_iff.mp H
 obtain ⟨⟨t106, t107⟩, A90, H⟩ := H
 (try dsimp only at H)
 have A9 := Aside0.mk A90
 clear A90
 by_cases c10 : 2 < (t102.length : Int)
 rotate_left
 ·rw [if_neg c10] at H
  exact absurd H (by simp)
 rw [if_pos c10] at H
 have c10b0 : decide (2 < (t102.length : Int)) = true := decide_eq_true c10
 have c10b1 : decide (2 < t102.length) = true := decide_eq_true (by omega)
 clear c10
 replace H := Option.bind_eq_some_iff.mp H
 obtain ⟨⟨t109, t110⟩, A110, H⟩ := H
 (try dsimp only at H)
 have A11 := Aside0.mk A110
 clear A110
 by_cases c12 : 0 < (t102.length : Int)
 rotate_left
 ·rw [if_neg c12] at H
  exact absurd H (by simp)
 rw [if_pos c12] at H
 have c12b0 : decide (0 < (t102.length : Int)) = true := decide_eq_true c12
 have c12b1 : decide (0 < t102.length) = true := decide_eq_true (by omega)
 clear c12
 by_cases c13 : t107 = true
 rotate_left
 ·replace c13 := Bool.eq_false_iff.mpr c13
  subst c13
  have H1 : (some ((⟨#[]⟩ : ByteArray), 0, 0, false)) = some (r1, r2, r3, r4) := by rw [if_neg (show ¬ (false = true) by decide)] at H; exact H
  clear H
  have H := H1
  clear H1
  simp only [Option.some.injEq, Prod.mk.injEq] at H
  obtain ⟨rfl, rfl, rfl, rfl⟩ := H
  have p105 : 0 ≤ (1 : Int) := (by omega)
  have q105 : 1 < (t102.length : Int) := of_decide_eq_true (by assumption)
  obtain ⟨ad105, e105, hx105_0⟩ := Kd.bf_ (Kd.av_ HO104.out).2.2 1 p105 q105
  cases e105
  (try simp only [show (1 : Int).toNat = 1 from rfl, Nat.reduceMul, Nat.reduceEqDiff, Go.Addr.add, ↓reduceIte] at hx105_0)
  have qi105 : (1 < t102.length) = True := eq_true (by omega)
  (try rw [show ((1 : Int)).toNat = 1 from rfl] at hx105_0)
  replace p105 := eq_true p105
  replace q105 := eq_true q105
  go_wp2_with (first | ((with_reducible refine af_ (f := 35) rfl ?_); refine aJ_ (some 20) rfl rfl Tryz.func35 (by kernel_rfl) rfl #[.string (rdOf ByteArray.empty t102 1)] rfl (by first | rfl | (simp only [lma_, lmc_, lmn_]; first | done | rfl)) ?_; (with_reducible refine (ak_.calls k (rdOf ByteArray.empty t102 1) t106 false _ ?side1 A9.out).mono ?_); (case side1 => exact bc_ HTab_.out (by repeat (first | (with_reducible first | exact HB.out | apply bA_ | apply bN_ | apply bD_ | refine aa_ ?_ GE101.out)))); rintro e w35 ⟨rfl, hb⟩; refine ⟨_, rfl, ?_⟩; replace HO104 := Aside0.mk (Kd.aV_ (rz HO104.out) hb); replace BK101 := Aside0.mk (an_ (kz BK101.out) hb); replace HB := Aside0.mk (ac_ (by repeat (first | (with_reducible first | exact HB.out | apply bA_ | apply bN_ | apply bD_ | refine aa_ ?_ GE101.out))) hb); (try clear hb); have p108 : 0 ≤ (2 : Int) := (by omega); have q108 : 2 < (t102.length : Int) := of_decide_eq_true (by assumption); obtain ⟨ad108, e108, hx108_0⟩ := Kd.bf_ (Kd.av_ HO104.out).2.2 2 p108 q108; obtain rfl : ad105 = ad108 := (by injection e108); (try simp only [show (2 : Int).toNat = 2 from rfl, Nat.reduceMul, Nat.reduceEqDiff, Go.Addr.add, ↓reduceIte] at hx108_0); have qi108 : (2 < t102.length) = True := eq_true (by omega); (try rw [show ((2 : Int)).toNat = 2 from rfl] at hx108_0); replace p108 := eq_true p108; replace q108 := eq_true q108) | ((with_reducible refine af_ (f := 35) rfl ?_); refine aJ_ (some 27) rfl rfl Tryz.func35 (by kernel_rfl) rfl #[.string (rdOf ByteArray.empty t102 2)] rfl (by first | rfl | (simp only [lma_, lmc_, lmn_]; first | done | rfl)) ?_; (with_reducible refine (ak_.calls k (rdOf ByteArray.empty t102 2) t109 t110 _ ?side1 A11.out).mono ?_); (case side1 => exact bc_ HTab_.out (by repeat (first | (with_reducible first | exact HB.out | apply bA_ | apply bN_ | apply bD_ | refine aa_ ?_ GE101.out)))); rintro e w36 ⟨rfl, hb⟩; refine ⟨_, rfl, ?_⟩; replace HO104 := Aside0.mk (Kd.aV_ (rz HO104.out) hb); replace BK101 := Aside0.mk (an_ (kz BK101.out) hb); replace HB := Aside0.mk (ac_ (by repeat (first | (with_reducible first | exact HB.out | apply bA_ | apply bN_ | apply bD_ | refine aa_ ?_ GE101.out))) hb); (try clear hb); have p111 : 0 ≤ (0 : Int) := (by omega); have q111 : 0 < (t102.length : Int) := of_decide_eq_true (by assumption); obtain ⟨ad111, e111, hx111_0⟩ := Kd.bf_ (Kd.av_ HO104.out).2.2 0 p111 q111; obtain rfl : ad105 = ad111 := (by injection e111); have qi111 : (0 < t102.length) = True := eq_true (by omega); (try rw [show ((0 : Int)).toNat = 0 from rfl] at hx111_0); (try rw [Addr.add_zero'] at hx111_0); replace p111 := eq_true p111; replace q111 := eq_true q111) | ((with_reducible refine aI_ (N := 9) rfl ?_); refine aR_ ?hg (N := 9) ?hd (cs := #[.string (⟨#[]⟩ : ByteArray), .int .i64 0, .int .i64 0]) (t := 40) ?hr ?_; (case hd => rfl); (case hg => rfl); (case hr => (go_simp; try rfl)); intro gb112 hg w37 hbox hb; replace HO104 := Aside0.mk (Kd.aV_ (rz HO104.out) hb); have BK112 := Aside0.mk (hbox); have GW112 := Aside0.mk ((by rw [hg]; exact (ad_ (by repeat (first | (with_reducible first | exact HB.out | apply bA_ | apply bN_ | apply bD_ | refine aa_ ?_ GE101.out)))) : w.heap.size ≤ gb112)); have GE112 := Aside0.mk ((by rw [hg]; exact (ad_ (by repeat (first | (with_reducible first | exact HB.out | apply bA_ | apply bN_ | apply bD_ | refine aa_ ?_ GE101.out)))) : w.heap.size ≤ gb112)); replace HB := Aside0.mk (ac_ (by repeat (first | (with_reducible first | exact HB.out | apply bA_ | apply bN_ | apply bD_ | refine aa_ ?_ GE101.out))) hb); have NB101_112 := Aside0.mk ((by rw [hg]; exact Nat.ne_of_lt (bF_ (kz BK101.out)) : gb101 ≠ gb112)); have NB112_101 := Aside0.mk ((by rw [hg]; exact Nat.ne_of_gt (bF_ (kz BK101.out)) : gb112 ≠ gb101)); replace BK101 := Aside0.mk (an_ (kz BK101.out) hb); clear hb hbox hg; have hnb38 := NB112_101.out; have hnc38 := NB101_112.out; obtain ⟨hcz39_0, hcz39_1, hcz39_2⟩ := cz3_ BK112.out; obtain ⟨hfz39_0, hfz39_1, hfz39_2⟩ := fz3_ BK112.out; obtain ⟨hcz40_0, hcz40_1, hcz40_2⟩ := cz3_ BK101.out; obtain ⟨hfz40_0, hfz40_1, hfz40_2⟩ := fz3_ BK101.out))
  refine bodyPost_ret (bB_ rfl _ _ gb101 40 #[.string (⟨#[]⟩ : ByteArray), .int .i64 0, .int .i64 0] (0, 0) _ rfl (by exact kj3_2 (kj3_1 (kj3_0 (kf (kf (kf (kz BK101.out) NB101_112.out) NB101_112.out) NB101_112.out)))) Tryz.underlying40 rfl (by kernel_rfl)) rfl ?_
  exact ⟨by first | rfl | (simp [*, ai_, ah_] <;> rfl), by repeat (first | (with_reducible first | exact HB.out | apply bA_ | apply bN_ | apply bD_ | refine aa_ ?_ GE101.out | refine aa_ ?_ GE112.out))⟩
 subst c13
 have H1 : (if t110 = true then ((bh_.f (rdOf ByteArray.empty t102 0) t106 t109).bind fun t113 => (if t113 = true then (some (rdOf ByteArray.empty t102 0, t106, t109, true)) else (some ((⟨#[]⟩ : ByteArray), 0, 0, false)))) else (some ((⟨#[]⟩ : ByteArray), 0, 0, false))) = some (r1, r2, r3, r4) := by rw [if_pos rfl] at H; exact H
 clear H
 have H := H1
 clear H1
 by_cases c14 : t110 = true
 rotate_left
 ·replace c14 := Bool.eq_false_iff.mpr c14
  subst c14
  have H1 : (some ((⟨#[]⟩ : ByteArray), 0, 0, false)) = some (r1, r2, r3, r4) := by rw [if_neg (show ¬ (false = true) by decide)] at H; exact H
  clear H
  have H := H1
  clear H1
  simp only [Option.some.injEq, Prod.mk.injEq] at H
  obtain ⟨rfl, rfl, rfl, rfl⟩ := H
  have p105 : 0 ≤ (1 : Int) := (by omega)
  have q105 : 1 < (t102.length : Int) := of_decide_eq_true (by assumption)
  obtain ⟨ad105, e105, hx105_0⟩ := Kd.bf_ (Kd.av_ HO104.out).2.2 1 p105 q105
  cases e105
  (try simp only [show (1 : Int).toNat = 1 from rfl, Nat.reduceMul, Nat.reduceEqDiff, Go.Addr.add, ↓reduceIte] at hx105_0)
  have qi105 : (1 < t102.length) = True := eq_true (by omega)
  (try rw [show ((1 : Int)).toNat = 1 from rfl] at hx105_0)
  replace p105 := eq_true p105
  replace q105 := eq_true q105
  go_wp2_with (first | ((with_reducible refine af_ (f := 35) rfl ?_); refine aJ_ (some 20) rfl rfl Tryz.func35 (by kernel_rfl) rfl #[.string (rdOf ByteArray.empty t102 1)] rfl (by first | rfl | (simp only [lma_, lmc_, lmn_]; first | done | rfl)) ?_; (with_reducible refine (ak_.calls k (rdOf ByteArray.empty t102 1) t106 true _ ?side1 A9.out).mono ?_); (case side1 => exact bc_ HTab_.out (by repeat (first | (with_reducible first | exact HB.out | apply bA_ | apply bN_ | apply bD_ | refine aa_ ?_ GE101.out)))); rintro e w29 ⟨rfl, hb⟩; refine ⟨_, rfl, ?_⟩; replace HO104 := Aside0.mk (Kd.aV_ (rz HO104.out) hb); replace BK101 := Aside0.mk (an_ (kz BK101.out) hb); replace HB := Aside0.mk (ac_ (by repeat (first | (with_reducible first | exact HB.out | apply bA_ | apply bN_ | apply bD_ | refine aa_ ?_ GE101.out))) hb); (try clear hb); have p108 : 0 ≤ (2 : Int) := (by omega); have q108 : 2 < (t102.length : Int) := of_decide_eq_true (by assumption); obtain ⟨ad108, e108, hx108_0⟩ := Kd.bf_ (Kd.av_ HO104.out).2.2 2 p108 q108; obtain rfl : ad105 = ad108 := (by injection e108); (try simp only [show (2 : Int).toNat = 2 from rfl, Nat.reduceMul, Nat.reduceEqDiff, Go.Addr.add, ↓reduceIte] at hx108_0); have qi108 : (2 < t102.length) = True := eq_true (by omega); (try rw [show ((2 : Int)).toNat = 2 from rfl] at hx108_0); replace p108 := eq_true p108; replace q108 := eq_true q108) | ((with_reducible refine af_ (f := 35) rfl ?_); refine aJ_ (some 27) rfl rfl Tryz.func35 (by kernel_rfl) rfl #[.string (rdOf ByteArray.empty t102 2)] rfl (by first | rfl | (simp only [lma_, lmc_, lmn_]; first | done | rfl)) ?_; (with_reducible refine (ak_.calls k (rdOf ByteArray.empty t102 2) t109 false _ ?side1 A11.out).mono ?_); (case side1 => exact bc_ HTab_.out (by repeat (first | (with_reducible first | exact HB.out | apply bA_ | apply bN_ | apply bD_ | refine aa_ ?_ GE101.out)))); rintro e w30 ⟨rfl, hb⟩; refine ⟨_, rfl, ?_⟩; replace HO104 := Aside0.mk (Kd.aV_ (rz HO104.out) hb); replace BK101 := Aside0.mk (an_ (kz BK101.out) hb); replace HB := Aside0.mk (ac_ (by repeat (first | (with_reducible first | exact HB.out | apply bA_ | apply bN_ | apply bD_ | refine aa_ ?_ GE101.out))) hb); (try clear hb); have p111 : 0 ≤ (0 : Int) := (by omega); have q111 : 0 < (t102.length : Int) := of_decide_eq_true (by assumption); obtain ⟨ad111, e111, hx111_0⟩ := Kd.bf_ (Kd.av_ HO104.out).2.2 0 p111 q111; obtain rfl : ad105 = ad111 := (by injection e111); have qi111 : (0 < t102.length) = True := eq_true (by omega); (try rw [show ((0 : Int)).toNat = 0 from rfl] at hx111_0); (try rw [Addr.add_zero'] at hx111_0); replace p111 := eq_true p111; replace q111 := eq_true q111) | ((with_reducible refine aI_ (N := 9) rfl ?_); refine aR_ ?hg (N := 9) ?hd (cs := #[.string (⟨#[]⟩ : ByteArray), .int .i64 0, .int .i64 0]) (t := 40) ?hr ?_; (case hd => rfl); (case hg => rfl); (case hr => (go_simp; try rfl)); intro gb112 hg w31 hbox hb; replace HO104 := Aside0.mk (Kd.aV_ (rz HO104.out) hb); have BK112 := Aside0.mk (hbox); have GW112 := Aside0.mk ((by rw [hg]; exact (ad_ (by repeat (first | (with_reducible first | exact HB.out | apply bA_ | apply bN_ | apply bD_ | refine aa_ ?_ GE101.out)))) : w.heap.size ≤ gb112)); have GE112 := Aside0.mk ((by rw [hg]; exact (ad_ (by repeat (first | (with_reducible first | exact HB.out | apply bA_ | apply bN_ | apply bD_ | refine aa_ ?_ GE101.out)))) : w.heap.size ≤ gb112)); replace HB := Aside0.mk (ac_ (by repeat (first | (with_reducible first | exact HB.out | apply bA_ | apply bN_ | apply bD_ | refine aa_ ?_ GE101.out))) hb); have NB101_112 := Aside0.mk ((by rw [hg]; exact Nat.ne_of_lt (bF_ (kz BK101.out)) : gb101 ≠ gb112)); have NB112_101 := Aside0.mk ((by rw [hg]; exact Nat.ne_of_gt (bF_ (kz BK101.out)) : gb112 ≠ gb101)); replace BK101 := Aside0.mk (an_ (kz BK101.out) hb); clear hb hbox hg; have hnb32 := NB112_101.out; have hnc32 := NB101_112.out; obtain ⟨hcz33_0, hcz33_1, hcz33_2⟩ := cz3_ BK112.out; obtain ⟨hfz33_0, hfz33_1, hfz33_2⟩ := fz3_ BK112.out; obtain ⟨hcz34_0, hcz34_1, hcz34_2⟩ := cz3_ BK101.out; obtain ⟨hfz34_0, hfz34_1, hfz34_2⟩ := fz3_ BK101.out))
  refine bodyPost_ret (bB_ rfl _ _ gb101 40 #[.string (⟨#[]⟩ : ByteArray), .int .i64 0, .int .i64 0] (0, 0) _ rfl (by exact kj3_2 (kj3_1 (kj3_0 (kf (kf (kf (kz BK101.out) NB101_112.out) NB101_112.out) NB101_112.out)))) Tryz.underlying40 rfl (by kernel_rfl)) rfl ?_
  exact ⟨by first | rfl | (simp [*, ai_, ah_] <;> rfl), by repeat (first | (with_reducible first | exact HB.out | apply bA_ | apply bN_ | apply bD_ | refine aa_ ?_ GE101.out | refine aa_ ?_ GE112.out))⟩
 subst c14
 have H1 : ((bh_.f (rdOf ByteArray.empty t102 0) t106 t109).bind fun t113 => (if t113 = true then (some (rdOf ByteArray.empty t102 0, t106, t109, true)) else (some ((⟨#[]⟩ : ByteArray), 0, 0, false)))) = some (r1, r2, r3, r4) := by rw [if_pos rfl] at H; exact H
 clear H
 have H := H1
 clear H1
 replace H := Option.bind_eq_some_iff.mp H
 obtain ⟨t113, A150, H⟩ := H
 (try dsimp only at H)
 have A15 := Aside0.mk A150
 clear A150
 have HC16 := Aside0.mk H
 clear H
 have p105 : 0 ≤ (1 : Int) := (by omega)
 have q105 : 1 < (t102.length : Int) := of_decide_eq_true (by assumption)
 obtain ⟨ad105, e105, hx105_0⟩ := Kd.bf_ (Kd.av_ HO104.out).2.2 1 p105 q105
 cases e105
 (try simp only [show (1 : Int).toNat = 1 from rfl, Nat.reduceMul, Nat.reduceEqDiff, Go.Addr.add, ↓reduceIte] at hx105_0)
 have qi105 : (1 < t102.length) = True := eq_true (by omega)
 (try rw [show ((1 : Int)).toNat = 1 from rfl] at hx105_0)
 replace p105 := eq_true p105
 replace q105 := eq_true q105
 go_upto_if 43 with (first | ((with_reducible refine af_ (f := 35) rfl ?_); refine aJ_ (some 20) rfl rfl Tryz.func35 (by kernel_rfl) rfl #[.string (rdOf ByteArray.empty t102 1)] rfl (by first | rfl | (simp only [lma_, lmc_, lmn_]; first | done | rfl)) ?_; (with_reducible refine (ak_.calls k (rdOf ByteArray.empty t102 1) t106 true _ ?side1 A9.out).mono ?_); (case side1 => exact bc_ HTab_.out (by repeat (first | (with_reducible first | exact HB.out | apply bA_ | apply bN_ | apply bD_ | refine aa_ ?_ GE101.out)))); rintro e w17 ⟨rfl, hb⟩; refine ⟨_, rfl, ?_⟩; replace HO104 := Aside0.mk (Kd.aV_ (rz HO104.out) hb); replace BK101 := Aside0.mk (an_ (kz BK101.out) hb); replace HB := Aside0.mk (ac_ (by repeat (first | (with_reducible first | exact HB.out | apply bA_ | apply bN_ | apply bD_ | refine aa_ ?_ GE101.out))) hb); (try clear hb); have p108 : 0 ≤ (2 : Int) := (by omega); have q108 : 2 < (t102.length : Int) := of_decide_eq_true (by assumption); obtain ⟨ad108, e108, hx108_0⟩ := Kd.bf_ (Kd.av_ HO104.out).2.2 2 p108 q108; obtain rfl : ad105 = ad108 := (by injection e108); (try simp only [show (2 : Int).toNat = 2 from rfl, Nat.reduceMul, Nat.reduceEqDiff, Go.Addr.add, ↓reduceIte] at hx108_0); have qi108 : (2 < t102.length) = True := eq_true (by omega); (try rw [show ((2 : Int)).toNat = 2 from rfl] at hx108_0); replace p108 := eq_true p108; replace q108 := eq_true q108) | ((with_reducible refine af_ (f := 35) rfl ?_); refine aJ_ (some 27) rfl rfl Tryz.func35 (by kernel_rfl) rfl #[.string (rdOf ByteArray.empty t102 2)] rfl (by first | rfl | (simp only [lma_, lmc_, lmn_]; first | done | rfl)) ?_; (with_reducible refine (ak_.calls k (rdOf ByteArray.empty t102 2) t109 true _ ?side1 A11.out).mono ?_); (case side1 => exact bc_ HTab_.out (by repeat (first | (with_reducible first | exact HB.out | apply bA_ | apply bN_ | apply bD_ | refine aa_ ?_ GE101.out)))); rintro e w18 ⟨rfl, hb⟩; refine ⟨_, rfl, ?_⟩; replace HO104 := Aside0.mk (Kd.aV_ (rz HO104.out) hb); replace BK101 := Aside0.mk (an_ (kz BK101.out) hb); replace HB := Aside0.mk (ac_ (by repeat (first | (with_reducible first | exact HB.out | apply bA_ | apply bN_ | apply bD_ | refine aa_ ?_ GE101.out))) hb); (try clear hb); have p111 : 0 ≤ (0 : Int) := (by omega); have q111 : 0 < (t102.length : Int) := of_decide_eq_true (by assumption); obtain ⟨ad111, e111, hx111_0⟩ := Kd.bf_ (Kd.av_ HO104.out).2.2 0 p111 q111; obtain rfl : ad105 = ad111 := (by injection e111); have qi111 : (0 < t102.length) = True := eq_true (by omega); (try rw [show ((0 : Int)).toNat = 0 from rfl] at hx111_0); (try rw [Addr.add_zero'] at hx111_0); replace p111 := eq_true p111; replace q111 := eq_true q111) | ((with_reducible refine aI_ (N := 9) rfl ?_); refine aR_ ?hg (N := 9) ?hd (cs := #[.string (⟨#[]⟩ : ByteArray), .int .i64 0, .int .i64 0]) (t := 40) ?hr ?_; (case hd => rfl); (case hg => rfl); (case hr => (go_simp; try rfl)); intro gb112 hg w19 hbox hb; replace HO104 := Aside0.mk (Kd.aV_ (rz HO104.out) hb); have BK112 := Aside0.mk (hbox); have GW112 := Aside0.mk ((by rw [hg]; exact (ad_ (by repeat (first | (with_reducible first | exact HB.out | apply bA_ | apply bN_ | apply bD_ | refine aa_ ?_ GE101.out)))) : w.heap.size ≤ gb112)); have GE112 := Aside0.mk ((by rw [hg]; exact (ad_ (by repeat (first | (with_reducible first | exact HB.out | apply bA_ | apply bN_ | apply bD_ | refine aa_ ?_ GE101.out)))) : w.heap.size ≤ gb112)); replace HB := Aside0.mk (ac_ (by repeat (first | (with_reducible first | exact HB.out | apply bA_ | apply bN_ | apply bD_ | refine aa_ ?_ GE101.out))) hb); have NB101_112 := Aside0.mk ((by rw [hg]; exact Nat.ne_of_lt (bF_ (kz BK101.out)) : gb101 ≠ gb112)); have NB112_101 := Aside0.mk ((by rw [hg]; exact Nat.ne_of_gt (bF_ (kz BK101.out)) : gb112 ≠ gb101)); replace BK101 := Aside0.mk (an_ (kz BK101.out) hb); clear hb hbox hg; have hnb20 := NB112_101.out; have hnc20 := NB101_112.out; obtain ⟨hcz21_0, hcz21_1, hcz21_2⟩ := cz3_ BK112.out; obtain ⟨hfz21_0, hfz21_1, hfz21_2⟩ := fz3_ BK112.out) | (go_at_call 53; (with_reducible refine (bh_.calls (rdOf ByteArray.empty t102 0) t106 t109 t113 _ A15.out).mono ?_); rintro e w22 ⟨rfl, hb⟩; replace HO104 := Aside0.mk (Kd.aV_ (rz (Kd.bg_ (Kd.R_far (p := ⟨gb112, 2, none⟩) (Kd.R_far (p := ⟨gb112, 1, none⟩) (Kd.R_far (p := ⟨gb112, 0, none⟩) (Kd.bW_ HO104.out BK112.out (by decide)) (fun _ hk => hk.2) (.string (rdOf ByteArray.empty t102 0))) (fun _ hk => hk.2) (.int .i64 t106)) (fun _ hk => hk.2) (.int .i64 t109)) (fun _ h_ => h_.1))) hb); replace BK101 := Aside0.mk (an_ (g := gb101) (o := .cells #[.string (⟨#[]⟩ : ByteArray), .int .i64 0, .int .i64 0] 40 (0, 0)) (by exact kf (kf (kf (kz BK101.out) NB101_112.out) NB101_112.out) NB101_112.out) hb); replace BK112 := Aside0.mk (an_ (g := gb112) (o := .cells #[.string (rdOf ByteArray.empty t102 0), .int .i64 t106, .int .i64 t109] 40 (0, 0)) (by exact kj3_2 (kj3_1 (kj3_0 (kz BK112.out)))) hb); replace HB := Aside0.mk (ac_ (by repeat (first | (with_reducible first | exact HB.out | apply bA_ | apply bN_ | apply bD_ | refine aa_ ?_ GE101.out | refine aa_ ?_ GE112.out))) hb); (try clear hb)))
 (try simp only [Act.put, lsa_, ls0_, ls1_])
 have H := HC16.out
 clear HC16
 by_cases c23 : t113 = true
 rotate_left
 ·replace c23 := Bool.eq_false_iff.mpr c23
  subst c23
  have H1 : (some ((⟨#[]⟩ : ByteArray), 0, 0, false)) = some (r1, r2, r3, r4) := by rw [if_neg (show ¬ (false = true) by decide)] at H; exact H
  clear H
  have H := H1
  clear H1
  simp only [Option.some.injEq, Prod.mk.injEq] at H
  obtain ⟨rfl, rfl, rfl, rfl⟩ := H
  have hnb27 := NB101_112.out
  have hnc27 := NB112_101.out
  obtain ⟨hcz28_0, hcz28_1, hcz28_2⟩ := cz3_ BK101.out
  obtain ⟨hfz28_0, hfz28_1, hfz28_2⟩ := fz3_ BK101.out
  go_wp2
  refine bodyPost_ret (bB_ rfl _ _ gb101 40 #[.string (⟨#[]⟩ : ByteArray), .int .i64 0, .int .i64 0] (0, 0) _ rfl (by exact kj3_2 (kj3_1 (kj3_0 (kz BK101.out)))) Tryz.underlying40 rfl (by kernel_rfl)) rfl ?_
  exact ⟨by first | rfl | (simp [*, ai_, ah_] <;> rfl), by repeat (first | (with_reducible first | exact HB.out | apply bA_ | apply bN_ | apply bD_ | refine aa_ ?_ GE101.out | refine aa_ ?_ GE112.out))⟩
 subst c23
 have H1 : (some (rdOf ByteArray.empty t102 0, t106, t109, true)) = some (r1, r2, r3, r4) := by rw [if_pos rfl] at H; exact H
 clear H
 have H := H1
 clear H1
 simp only [Option.some.injEq, Prod.mk.injEq] at H
 obtain ⟨rfl, rfl, rfl, rfl⟩ := H
 have hnb24 := NB112_101.out
 have hnc24 := NB101_112.out
 obtain ⟨hcz25_0, hcz25_1, hcz25_2⟩ := cz3_ BK112.out
 obtain ⟨hfz25_0, hfz25_1, hfz25_2⟩ := fz3_ BK112.out
 obtain ⟨hcz26_0, hcz26_1, hcz26_2⟩ := cz3_ BK101.out
 obtain ⟨hfz26_0, hfz26_1, hfz26_2⟩ := fz3_ BK101.out
 go_wp2
 refine bodyPost_ret (bB_ rfl _ _ gb101 40 #[.string (rdOf ByteArray.empty t102 0), .int .i64 t106, .int .i64 t109] (0, 0) _ rfl (by exact kj3_2 (kj3_1 (kj3_0 (kz BK101.out)))) Tryz.underlying40 rfl (by kernel_rfl)) rfl ?_
 exact ⟨by first | rfl | (simp [*, ai_, ah_] <;> rfl), by repeat (first | (with_reducible first | exact HB.out | apply bA_ | apply bN_ | apply bD_ | refine aa_ ?_ GE101.out | refine aa_ ?_ GE112.out))⟩
def strings_Cut.f (a0 : ByteArray) (a1 : ByteArray) : Option (ByteArray × ByteArray × Bool) := if a0.size < 4294967281 then some ((⟨(Go.Lib.cut a0.data.toList a1.data.toList).1.toArray⟩ : ByteArray), (⟨(Go.Lib.cut a0.data.toList a1.data.toList).2.1.toArray⟩ : ByteArray), (Go.Lib.cut a0.data.toList a1.data.toList).2.2) else none
theorem strings_Cut.calls (a0 : ByteArray) (a1 : ByteArray) (r1 : ByteArray) (r2 : ByteArray) (r3 : Bool) (w : World) (hTab_ : Tab_ w) (h : strings_Cut.f a0 a1 = some (r1, r2, r3)) :
  Calls Tryz.prog 54 #[.string a0, .string a1] w fun e w' => e = .returned (.tuple #[.string r1, .string r2, .bool r3]) ∧ ap_ w w' := by
 unfold strings_Cut.f at h
 split at h
 case isFalse => cases h
 rename_i hs
 obtain ⟨rfl, rfl, rfl⟩ : _ ∧ _ ∧ _ := by simpa using h
 obtain ⟨m, hm⟩ := hTab_.2
 refine (Go.Proofs.Tryz.strings_Cut a0 a1 m w hs hm).mono ?_
 rintro e w' ⟨rfl, n, rfl⟩
 exact ⟨rfl, n, rfl⟩
def cp_.f (k : Nat) (a0 : ByteArray) : Option (Int × Int × Bool) := (strings_Cut.f a0 (⟨#[120]⟩ : ByteArray)).bind fun bt101 => ((ak_.f k bt101.1).bind fun bt104 => ((ak_.f k bt101.2.1).bind fun bt106 => (if bt101.2.2 = true then (if bt104.2 = true then (some (bt104.1, bt106.1, bt106.2)) else (some (bt104.1, bt106.1, false))) else (some (bt104.1, bt106.1, false)))))
set_option maxHeartbeats 8000000 in
set_option maxRecDepth 100000 in
theorem cp_.calls (k : Nat) (a0 : ByteArray) (r1 : Int) (r2 : Int) (r3 : Bool) (w : World) (hTab_ : Tab_ w) (h : cp_.f k a0 = some (r1, r2, r3)) :
  Calls Tryz.prog 37 #[.string a0] w fun e w' => e = .returned (.tuple #[.int .i64 r1, .int .i64 r2, .bool r3]) ∧ Below w.heap.size w w' := by
 have HTab_ := Aside0.mk hTab_
 clear hTab_
 have HB := Aside0.mk (Below.refl w.heap.size w)
 have H : ((strings_Cut.f a0 (⟨#[120]⟩ : ByteArray)).bind fun bt101 => ((ak_.f k bt101.1).bind fun bt104 => ((ak_.f k bt101.2.1).bind fun bt106 => (if bt101.2.2 = true then (if bt104.2 = true then (some (bt104.1, bt106.1, bt106.2)) else (some (bt104.1, bt106.1, false))) else (some (bt104.1, bt106.1, false)))))) = some (r1, r2, r3) := h
 clear h
 replace H := Option.bind_eq_some_iff.mp H
 obtain ⟨⟨t101, t102, t103⟩, A20, H⟩ := H
 (try dsimp only at H)
 have A2 := Aside0.mk A20
 clear A20
 replace H := Option.bind_eq_some_iff.mp H
 obtain ⟨⟨t104, t105⟩, A30, H⟩ := H
 (try dsimp only at H)
 have A3 := Aside0.mk A30
 clear A30
 replace H := Option.bind_eq_some_iff.mp H
 obtain ⟨⟨t106, t107⟩, A40, H⟩ := H
 (try dsimp only at H)
 have A4 := Aside0.mk A40
 clear A40
 by_cases c5 : t103 = true
 rotate_left
 ·replace c5 := Bool.eq_false_iff.mpr c5
  subst c5
  have H1 : (some (t104, t106, false)) = some (r1, r2, r3) := by rw [if_neg (show ¬ (false = true) by decide)] at H; exact H
  clear H
  have H := H1
  clear H1
  simp only [Option.some.injEq, Prod.mk.injEq] at H
  obtain ⟨rfl, rfl, rfl⟩ := H
  go_enter Tryz.func37, Tryz.ntmps37
  go_wp2_with (first | ((with_reducible refine af_ (f := 54) rfl ?_); refine aJ_ (some 14) rfl rfl Tryz.func54 (by kernel_rfl) rfl #[.string a0, .string (⟨#[120]⟩ : ByteArray)] rfl (by first | rfl | (simp only [lma_, lmc_, lmn_]; first | done | rfl)) ?_; (with_reducible refine (strings_Cut.calls a0 (⟨#[120]⟩ : ByteArray) t101 t102 false _ ?side1 A2.out).mono ?_); (case side1 => exact bc_ HTab_.out (bz HB.out)); rintro e w' ⟨rfl, ⟨nd, rfl⟩⟩; refine ⟨_, rfl, ?_⟩) | ((with_reducible refine af_ (f := 35) rfl ?_); refine aJ_ (some 20) rfl rfl Tryz.func35 (by kernel_rfl) rfl #[.string t101] rfl (by first | rfl | (simp only [lma_, lmc_, lmn_]; first | done | rfl)) ?_; (with_reducible refine (ak_.calls k t101 t104 t105 _ ?side1 A3.out).mono ?_); (case side1 => exact bc_ HTab_.out (bz HB.out)); rintro e w11 ⟨rfl, hb⟩; refine ⟨_, rfl, ?_⟩; replace HB := Aside0.mk (ac_ (bz HB.out) hb); (try clear hb)) | ((with_reducible refine af_ (f := 35) rfl ?_); refine aJ_ (some 25) rfl rfl Tryz.func35 (by kernel_rfl) rfl #[.string t102] rfl (by first | rfl | (simp only [lma_, lmc_, lmn_]; first | done | rfl)) ?_; (with_reducible refine (ak_.calls k t102 t106 t107 _ ?side1 A4.out).mono ?_); (case side1 => exact bc_ HTab_.out (bz HB.out)); rintro e w12 ⟨rfl, hb⟩; refine ⟨_, rfl, ?_⟩; replace HB := Aside0.mk (ac_ (bz HB.out) hb); (try clear hb)))
  go_ret3
  exact ⟨by first | rfl | (simp [*, ai_, ah_] <;> rfl), bz HB.out⟩
 subst c5
 have H1 : (if t105 = true then (some (t104, t106, t107)) else (some (t104, t106, false))) = some (r1, r2, r3) := by rw [if_pos rfl] at H; exact H
 clear H
 have H := H1
 clear H1
 by_cases c6 : t105 = true
 rotate_left
 ·replace c6 := Bool.eq_false_iff.mpr c6
  subst c6
  have H1 : (some (t104, t106, false)) = some (r1, r2, r3) := by rw [if_neg (show ¬ (false = true) by decide)] at H; exact H
  clear H
  have H := H1
  clear H1
  simp only [Option.some.injEq, Prod.mk.injEq] at H
  obtain ⟨rfl, rfl, rfl⟩ := H
  go_enter Tryz.func37, Tryz.ntmps37
  go_wp2_with (first | ((with_reducible refine af_ (f := 54) rfl ?_); refine aJ_ (some 14) rfl rfl Tryz.func54 (by kernel_rfl) rfl #[.string a0, .string (⟨#[120]⟩ : ByteArray)] rfl (by first | rfl | (simp only [lma_, lmc_, lmn_]; first | done | rfl)) ?_; (with_reducible refine (strings_Cut.calls a0 (⟨#[120]⟩ : ByteArray) t101 t102 true _ ?side1 A2.out).mono ?_); (case side1 => exact bc_ HTab_.out (bz HB.out)); rintro e w' ⟨rfl, ⟨nd, rfl⟩⟩; refine ⟨_, rfl, ?_⟩) | ((with_reducible refine af_ (f := 35) rfl ?_); refine aJ_ (some 20) rfl rfl Tryz.func35 (by kernel_rfl) rfl #[.string t101] rfl (by first | rfl | (simp only [lma_, lmc_, lmn_]; first | done | rfl)) ?_; (with_reducible refine (ak_.calls k t101 t104 false _ ?side1 A3.out).mono ?_); (case side1 => exact bc_ HTab_.out (bz HB.out)); rintro e w9 ⟨rfl, hb⟩; refine ⟨_, rfl, ?_⟩; replace HB := Aside0.mk (ac_ (bz HB.out) hb); (try clear hb)) | ((with_reducible refine af_ (f := 35) rfl ?_); refine aJ_ (some 25) rfl rfl Tryz.func35 (by kernel_rfl) rfl #[.string t102] rfl (by first | rfl | (simp only [lma_, lmc_, lmn_]; first | done | rfl)) ?_; (with_reducible refine (ak_.calls k t102 t106 t107 _ ?side1 A4.out).mono ?_); (case side1 => exact bc_ HTab_.out (bz HB.out)); rintro e w10 ⟨rfl, hb⟩; refine ⟨_, rfl, ?_⟩; replace HB := Aside0.mk (ac_ (bz HB.out) hb); (try clear hb)))
  go_ret3
  exact ⟨by first | rfl | (simp [*, ai_, ah_] <;> rfl), bz HB.out⟩
 subst c6
 have H1 : (some (t104, t106, t107)) = some (r1, r2, r3) := by rw [if_pos rfl] at H; exact H
 clear H
 have H := H1
 clear H1
 simp only [Option.some.injEq, Prod.mk.injEq] at H
 obtain ⟨rfl, rfl, rfl⟩ := H
 go_enter Tryz.func37, Tryz.ntmps37
 go_wp2_with (first | ((with_reducible refine af_ (f := 54) rfl ?_); refine aJ_ (some 14) rfl rfl Tryz.func54 (by kernel_rfl) rfl #[.string a0, .string (⟨#[120]⟩ : ByteArray)] rfl (by first | rfl | (simp only [lma_, lmc_, lmn_]; first | done | rfl)) ?_; (with_reducible refine (strings_Cut.calls a0 (⟨#[120]⟩ : ByteArray) t101 t102 true _ ?side1 A2.out).mono ?_); (case side1 => exact bc_ HTab_.out (bz HB.out)); rintro e w' ⟨rfl, ⟨nd, rfl⟩⟩; refine ⟨_, rfl, ?_⟩) | ((with_reducible refine af_ (f := 35) rfl ?_); refine aJ_ (some 20) rfl rfl Tryz.func35 (by kernel_rfl) rfl #[.string t101] rfl (by first | rfl | (simp only [lma_, lmc_, lmn_]; first | done | rfl)) ?_; (with_reducible refine (ak_.calls k t101 t104 true _ ?side1 A3.out).mono ?_); (case side1 => exact bc_ HTab_.out (bz HB.out)); rintro e w7 ⟨rfl, hb⟩; refine ⟨_, rfl, ?_⟩; replace HB := Aside0.mk (ac_ (bz HB.out) hb); (try clear hb)) | ((with_reducible refine af_ (f := 35) rfl ?_); refine aJ_ (some 25) rfl rfl Tryz.func35 (by kernel_rfl) rfl #[.string t102] rfl (by first | rfl | (simp only [lma_, lmc_, lmn_]; first | done | rfl)) ?_; (with_reducible refine (ak_.calls k t102 t106 t107 _ ?side1 A4.out).mono ?_); (case side1 => exact bc_ HTab_.out (bz HB.out)); rintro e w8 ⟨rfl, hb⟩; refine ⟨_, rfl, ?_⟩; replace HB := Aside0.mk (ac_ (bz HB.out) hb); (try clear hb)))
 go_ret3
 exact ⟨by first | rfl | (simp [*, ai_, ah_] <;> rfl), bz HB.out⟩
def bk_.l0 : Nat → List Int → List ByteArray → Int → Int → Option (List Int × Bool)
 | 0, _, _, _, _ => none
 | k + 1, x4, x13, x14, x15 => if x15 < x14 then (if 0 ≤ x15 then (if x15 < (x13.length : Int) then ((ak_.f k (rdOf ByteArray.empty x13 x15)).bind fun bt108 => (if bt108.2 = true then ((ar_.f bt108.1 (-1000000000000) 1000000000000).bind fun t110 => (if t110 = true then (if x4.length < 17592186044416 then (bk_.l0 k (x4 ++ [bt108.1]) x13 x14 (wrap64 (x15 + 1))) else (none)) else (some (([] : List Int), false)))) else (some (([] : List Int), false)))) else (none)) else (none)) else (if (x4.length : Int) > 64 then (some (([] : List Int), false)) else (some (x4, true)))
def bk_.f (k : Nat) (a0 : ByteArray) : Option (List Int × Bool) := if a0.toList = ([45] : List UInt8) then (some (([] : List Int), true)) else ((strings_Split.f a0 (⟨#[44]⟩ : ByteArray)).bind fun t104 => (bk_.l0 k (([] : List Int)) t104 (t104.length : Int) 0))
set_option maxHeartbeats 8000000 in
set_option maxRecDepth 100000 in
theorem bk_.calls (k : Nat) (a0 : ByteArray) (r1 : List Int) (r2 : Bool) (w : World) (hTab_ : Tab_ w) (h : bk_.f k a0 = some (r1, r2)) :
  Calls Tryz.prog 55 #[.string a0] w fun e w' => ∃ v0_ : Value, e = .returned (.tuple #[v0_, .bool r2]) ∧ Kd.R (Kd.int .i64) 2 w' w.heap.size (fun _ => True) v0_ r1 ∧ Below w.heap.size w w' := by
 have HTab_ := Aside0.mk hTab_
 clear hTab_
 have HB := Aside0.mk (Below.refl w.heap.size w)
 have H : (if a0.toList = ([45] : List UInt8) then (some (([] : List Int), true)) else ((strings_Split.f a0 (⟨#[44]⟩ : ByteArray)).bind fun t104 => (bk_.l0 k (([] : List Int)) t104 (t104.length : Int) 0))) = some (r1, r2) := h
 clear h
 by_cases c2 : a0.toList = ([45] : List UInt8)
 rotate_left
 ·rw [if_neg c2] at H
  have c2b0 : (a0.toList == ([45] : List UInt8)) = false := beq_eq_false_iff_ne.mpr c2
  have c2b1 : (a0.toList != ([45] : List UInt8)) = true := bne_iff_ne.mpr c2
  obtain ⟨y101, hy101⟩ : ∃ y_ : List Int, y_ = (([] : List Int)) := ⟨_, rfl⟩
  replace H : ((strings_Split.f a0 (⟨#[44]⟩ : ByteArray)).bind fun t104 => (bk_.l0 k y101 t104 (t104.length : Int) 0)) = some (r1, r2) := by first | (rw [hy101]; with_reducible exact H) | (have H2_ := (Option.bind_some _ _).symm.trans H; rw [hy101]; with_reducible exact H2_) | (have H2_ := (Option.bind_some _ _).symm.trans H; with_reducible exact H2_) | with_reducible exact H | (rw [hy101]; exact H) | exact H
  have Ny101 := Aside0.mk hy101
  clear hy101
  replace H := Option.bind_eq_some_iff.mp H
  obtain ⟨t104, A30, H⟩ := H
  (try dsimp only at H)
  have A3 := Aside0.mk A30
  clear A30
  have H' := Aside0.mk H
  clear H
  go_enter Tryz.func55, Tryz.ntmps55
  go_wp2_with (first | ((with_reducible refine aI_ (N := 11) rfl ?_); refine Kd.R_lit (Kd.int .i64) _ 2 ?hg (N := 11) ?hd (xs := ([] : List Int)) (inner := []) (ok := fun _ => True) (okp := fun _ => True) ?hr ?hp (fun _ hk => hk) trivial (Below.refl _ _) (Nat.le_refl _) (by simp) ?_; (case hd => rfl); (case hg => rfl); (case hr => (go_simp; try rfl)); (case hp => exact (Reps.none _ _)); intro v102 w4 ho5 hb hg_ hnew_; clear hg_ hnew_; (first | rw [← Ny101.out] at ho5 | (simp only [Int.reduceToNat] at ho5; rw [← Ny101.out] at ho5)); have HO103 := Aside0.mk (Kd.bz_ ho5 (ad_ (bz HB.out))); replace HB := Aside0.mk (ac_ (bz HB.out) hb); clear hb ho5) | ((with_reducible refine af_ (f := 34) rfl ?_); refine aJ_ (some 13) rfl rfl Tryz.func34 (by kernel_rfl) rfl #[.string a0, .string (⟨#[44]⟩ : ByteArray)] rfl (by first | rfl | (simp only [lma_, lmc_, lmn_]; first | done | rfl)) ?_; (with_reducible refine (strings_Split.calls a0 (⟨#[44]⟩ : ByteArray) t104 _ ?side1 A3.out).mono ?_); (case side1 => exact bc_ HTab_.out (bz HB.out)); rintro e w6 ⟨v105, rfl, ho0, hb⟩; refine ⟨_, rfl, ?_⟩; replace HO103 := Aside0.mk (Kd.aV_ (rz HO103.out) hb); have HO106 := Aside0.mk (Kd.bz_ ho0 (ad_ (bz HB.out))); replace HB := Aside0.mk (ac_ (bz HB.out) hb); (try clear hb); (try clear ho0); obtain ⟨Ao7, co7, eo7⟩ := Kd.bv_ HO106.out; subst eo7))
  (try simp only [Act.put, lsa_, ls0_, ls1_])
  go_loopg [4, 15] k (fun kq v4 v15 w' => ∃ (x4_1 : List Int) (x15_1 : Int), v15 = .int .i64 x15_1 ∧ Aside0 (bk_.l0 kq x4_1 t104 (t104.length : Int) x15_1 = some (r1, r2)) ∧ Aside0 (kq ≤ k) ∧ Aside0 (Kd.R (Kd.int .i64) 2 w' w.heap.size (fun _ => True) v4 x4_1) ∧ Aside0 (Kd.R Kd.string 9 w' w.heap.size (fun _ => True) (.slice Ao7 t104.length co7) t104) ∧ Aside0 (Below w.heap.size w w'))
  case atStart => exact ⟨(y101), (0), (by first | rfl | (simp; done) | (simp [*]; done)), H', ⟨Nat.le_refl _⟩, ⟨rz HO103.out⟩, ⟨rz HO106.out⟩, ⟨bz HB.out⟩⟩
  case round =>
   clear H'
   obtain ⟨x4_1, x15_1, rfl, HA, HK1, HO_4, HO_13, HB⟩ := hrel
   cases gk with
   | zero => exact absurd HA.out (by simp [bk_.l0])
   | succ k1 =>
    have H := HA.out
    clear HA
    simp only [bk_.l0] at H
    by_cases c8 : x15_1 < (t104.length : Int)
    rotate_left
    ·rw [if_neg c8] at H
     have c8b0 : decide (x15_1 < (t104.length : Int)) = false := decide_eq_false c8
     clear c8
     by_cases c20 : (x4_1.length : Int) > 64
     rotate_left
     ·rw [if_neg c20] at H
      have c20b0 : decide (64 < (x4_1.length : Int)) = false := decide_eq_false c20
      have c20b1 : decide (64 < x4_1.length) = false := decide_eq_false (by omega)
      clear c20
      simp only [Option.some.injEq, Prod.mk.injEq] at H
      obtain ⟨rfl, rfl⟩ := H
      obtain ⟨Ao22, co22, eo22⟩ := Kd.bv_ HO_4.out
      subst eo22
      go_wp2
      go_ret2
      exact ⟨_, by first | rfl | (simp [*, ai_, ah_] <;> rfl), rz HO_4.out, bz HB.out⟩
     rw [if_pos c20] at H
     have c20b0 : decide (64 < (x4_1.length : Int)) = true := decide_eq_true c20
     have c20b1 : decide (64 < x4_1.length) = true := decide_eq_true (by omega)
     clear c20
     simp only [Option.some.injEq, Prod.mk.injEq] at H
     obtain ⟨rfl, rfl⟩ := H
     obtain ⟨Ao21, co21, eo21⟩ := Kd.bv_ HO_4.out
     subst eo21
     go_wp2
     go_ret2
     exact ⟨_, by first | rfl | (simp [*, ai_, ah_] <;> rfl), by first | exact Kd.R_nil _ _ _ _ _ | exact Kd.N_nil _ _ _ _ _ | exact Kd.V_nil _ _ _ _ _ | exact Kd.Q_nil _ _ _ _ _ | exact Kd.S_nil _ _ _ _ _, bz HB.out⟩
    rw [if_pos c8] at H
    have c8b0 : decide (x15_1 < (t104.length : Int)) = true := decide_eq_true c8
    clear c8
    by_cases c9 : 0 ≤ x15_1
    rotate_left
    ·rw [if_neg c9] at H
     exact absurd H (by simp)
    rw [if_pos c9] at H
    have c9b0 : decide (0 ≤ x15_1) = true := decide_eq_true c9
    clear c9
    by_cases c10 : x15_1 < (t104.length : Int)
    rotate_left
    ·rw [if_neg c10] at H
     exact absurd H (by simp)
    rw [if_pos c10] at H
    have c10b0 : decide (x15_1 < (t104.length : Int)) = true := decide_eq_true c10
    clear c10
    replace H := Option.bind_eq_some_iff.mp H
    obtain ⟨⟨t108, t109⟩, A110, H⟩ := H
    (try dsimp only at H)
    have A11 := Aside0.mk A110
    clear A110
    by_cases c12 : t109 = true
    rotate_left
    ·replace c12 := Bool.eq_false_iff.mpr c12
     subst c12
     have H1 : (some (([] : List Int), false)) = some (r1, r2) := by rw [if_neg (show ¬ (false = true) by decide)] at H; exact H
     clear H
     have H := H1
     clear H1
     simp only [Option.some.injEq, Prod.mk.injEq] at H
     obtain ⟨rfl, rfl⟩ := H
     have p107 : 0 ≤ (x15_1 : Int) := of_decide_eq_true (by assumption)
     have q107 : x15_1 < (t104.length : Int) := of_decide_eq_true (by assumption)
     obtain ⟨ad107, e107, hx107_0⟩ := Kd.bf_ (Kd.av_ HO_13.out).2.2 x15_1 p107 q107
     cases e107
     replace p107 := eq_true p107
     replace q107 := eq_true q107
     go_wp2_with (first | ((with_reducible refine af_ (f := 35) rfl ?_); refine aJ_ (some 21) rfl rfl Tryz.func35 (by kernel_rfl) rfl #[.string (rdOf ByteArray.empty t104 x15_1)] rfl (by first | rfl | (simp only [lma_, lmc_, lmn_]; first | done | rfl)) ?_; (with_reducible refine (ak_.calls k1 (rdOf ByteArray.empty t104 x15_1) t108 false _ ?side1 A11.out).mono ?_); (case side1 => exact bc_ HTab_.out (bz HB.out)); rintro e w19 ⟨rfl, hb⟩; refine ⟨_, rfl, ?_⟩; replace HO_4 := Aside0.mk (Kd.aV_ (rz HO_4.out) hb); replace HO_13 := Aside0.mk (Kd.aV_ (rz HO_13.out) hb); replace HB := Aside0.mk (ac_ (bz HB.out) hb); (try clear hb)))
     go_ret2
     exact ⟨_, by first | rfl | (simp [*, ai_, ah_] <;> rfl), by first | exact Kd.R_nil _ _ _ _ _ | exact Kd.N_nil _ _ _ _ _ | exact Kd.V_nil _ _ _ _ _ | exact Kd.Q_nil _ _ _ _ _ | exact Kd.S_nil _ _ _ _ _, bz HB.out⟩
    subst c12
    have H1 : ((ar_.f t108 (-1000000000000) 1000000000000).bind fun t110 => (if t110 = true then (if x4_1.length < 17592186044416 then (bk_.l0 k1 (x4_1 ++ [t108]) t104 (t104.length : Int) (wrap64 (x15_1 + 1))) else (none)) else (some (([] : List Int), false)))) = some (r1, r2) := by rw [if_pos rfl] at H; exact H
    clear H
    have H := H1
    clear H1
    replace H := Option.bind_eq_some_iff.mp H
    obtain ⟨t110, A130, H⟩ := H
    (try dsimp only at H)
    have A13 := Aside0.mk A130
    clear A130
    have HC14 := Aside0.mk H
    clear H
    have p107 : 0 ≤ (x15_1 : Int) := of_decide_eq_true (by assumption)
    have q107 : x15_1 < (t104.length : Int) := of_decide_eq_true (by assumption)
    obtain ⟨ad107, e107, hx107_0⟩ := Kd.bf_ (Kd.av_ HO_13.out).2.2 x15_1 p107 q107
    cases e107
    replace p107 := eq_true p107
    replace q107 := eq_true q107
    go_upto_if 30 with (first | ((with_reducible refine af_ (f := 35) rfl ?_); refine aJ_ (some 21) rfl rfl Tryz.func35 (by kernel_rfl) rfl #[.string (rdOf ByteArray.empty t104 x15_1)] rfl (by first | rfl | (simp only [lma_, lmc_, lmn_]; first | done | rfl)) ?_; (with_reducible refine (ak_.calls k1 (rdOf ByteArray.empty t104 x15_1) t108 true _ ?side1 A11.out).mono ?_); (case side1 => exact bc_ HTab_.out (bz HB.out)); rintro e w15 ⟨rfl, hb⟩; refine ⟨_, rfl, ?_⟩; replace HO_4 := Aside0.mk (Kd.aV_ (rz HO_4.out) hb); replace HO_13 := Aside0.mk (Kd.aV_ (rz HO_13.out) hb); replace HB := Aside0.mk (ac_ (bz HB.out) hb); (try clear hb)) | (go_at_call 72; (with_reducible refine (ar_.calls t108 (-1000000000000) 1000000000000 t110 _ A13.out).mono ?_); rintro e w' ⟨rfl, ⟨nd, rfl⟩⟩; (try (rw [bm_ w15]; generalize hq_ : World.drewN w15 _ = w15; replace HO_13 := Aside0.mk (rqR hq_ HO_13.out); replace HO_4 := Aside0.mk (rqR hq_ HO_4.out); replace HB := Aside0.mk (rqH hq_ HB.out); clear hq_))))
    (try simp only [Act.put, lsa_, ls0_, ls1_])
    have H := HC14.out
    clear HC14
    by_cases c16 : t110 = true
    rotate_left
    ·replace c16 := Bool.eq_false_iff.mpr c16
     subst c16
     have H1 : (some (([] : List Int), false)) = some (r1, r2) := by rw [if_neg (show ¬ (false = true) by decide)] at H; exact H
     clear H
     have H := H1
     clear H1
     simp only [Option.some.injEq, Prod.mk.injEq] at H
     obtain ⟨rfl, rfl⟩ := H
     go_wp2
     go_ret2
     exact ⟨_, by first | rfl | (simp [*, ai_, ah_] <;> rfl), by first | exact Kd.R_nil _ _ _ _ _ | exact Kd.N_nil _ _ _ _ _ | exact Kd.V_nil _ _ _ _ _ | exact Kd.Q_nil _ _ _ _ _ | exact Kd.S_nil _ _ _ _ _, bz HB.out⟩
    subst c16
    have H1 : (if x4_1.length < 17592186044416 then (bk_.l0 k1 (x4_1 ++ [t108]) t104 (t104.length : Int) (wrap64 (x15_1 + 1))) else (none)) = some (r1, r2) := by rw [if_pos rfl] at H; exact H
    clear H
    have H := H1
    clear H1
    by_cases c17 : x4_1.length < 17592186044416
    rotate_left
    ·rw [if_neg c17] at H
     exact absurd H (by simp)
    rw [if_pos c17] at H
    have LMc17 := Aside0.mk c17
    clear c17
    obtain ⟨y111, hy111⟩ : ∃ y_ : List Int, y_ = (x4_1 ++ [t108]) := ⟨_, rfl⟩
    replace H : (bk_.l0 k1 y111 t104 (t104.length : Int) (wrap64 (x15_1 + 1))) = some (r1, r2) := by first | (rw [hy111]; with_reducible exact H) | (have H2_ := (Option.bind_some _ _).symm.trans H; rw [hy111]; with_reducible exact H2_) | (have H2_ := (Option.bind_some _ _).symm.trans H; with_reducible exact H2_) | with_reducible exact H | (rw [hy111]; exact H) | exact H
    have Ny111 := Aside0.mk hy111
    clear hy111
    have H' := Aside0.mk H
    clear H
    go_wp2_with (first | ((with_reducible refine cg_ (b := .append) (xs := #[.tmp 31, .tmp 33]) rfl ?_); at_builtin; refine Kd.R_append (Kd.int .i64) (w0 := w) w.heap.size rfl (.tmp 31) (.tmp 33) 62 2 (.int .i64 0) 8 rfl Tryz.underlying62 info2 rfl (by decide) (by omega) u4 x4_1 t108 [.int .i64 t108] (fun _ => True) (fun _ => False) rfl rfl ?aP (fun _ hk => hk.elim) ?aF ?aO ?aB ?aS ?aL ?_; (case aP => exact rfl); (case aB => exact (bz HB.out)); (case aF => exact (fun _ _ => trivial)); (case aO => exact (rz HO_4.out)); (case aS => exact (ad_ (bz HB.out))); (case aL => have := LMc17.out; omega); intro v112 w18 ho hb hg hat; rw [← Ny111.out] at ho; replace HO_13 := Aside0.mk (Kd.R_over' (rz HO_13.out) (Kd.R_typed (rz HO_4.out)) (by decide) hg); replace HB := Aside0.mk (hb); have HO113 := Aside0.mk (ho); clear HO_4; clear ho hb hg hat))
    go_roundg k1
    case measure => have := HK1.out; omega
    case rel => exact ⟨(y111), (wrap64 (x15_1 + 1)), (by first | rfl | (simp; done) | (simp [*]; done)), H', ⟨by have := HK1.out; omega⟩, ⟨rz HO113.out⟩, ⟨rz HO_13.out⟩, ⟨bz HB.out⟩⟩
 rw [if_pos c2] at H
 have c2b0 : (a0.toList == ([45] : List UInt8)) = true := beq_iff_eq.mpr c2
 have c2b1 : (a0.toList != ([45] : List UInt8)) = false := bne_eq_false_iff_eq.mpr c2
 clear c2
 simp only [Option.some.injEq, Prod.mk.injEq] at H
 obtain ⟨rfl, rfl⟩ := H
 go_enter Tryz.func55, Tryz.ntmps55
 go_wp2
 go_ret2
 exact ⟨_, by first | rfl | (simp [*, ai_, ah_] <;> rfl), by first | exact Kd.R_nil _ _ _ _ _ | exact Kd.N_nil _ _ _ _ _ | exact Kd.V_nil _ _ _ _ _ | exact Kd.Q_nil _ _ _ _ _ | exact Kd.S_nil _ _ _ _ _, bz HB.out⟩
def bM_.f (k : Nat) (a0 : ByteArray) : Option (Int × Int × Int × Int × Bool) := (bk_.f k a0).bind fun bt102 => (if bt102.2 = true then (if (bt102.1.length : Int) = 4 then (if 0 < (bt102.1.length : Int) then (if 1 < (bt102.1.length : Int) then (if 2 < (bt102.1.length : Int) then (if 3 < (bt102.1.length : Int) then (some (rd bt102.1 0, rd bt102.1 1, rd bt102.1 2, rd bt102.1 3, true)) else (none)) else (none)) else (none)) else (none)) else (some (0, 0, 0, 0, false))) else (some (0, 0, 0, 0, false)))
def bM_.T4 : Bool × List (List Nat × List Nat) := (true, [([], []), ([0], [0]), ([1], [1]), ([], []), ([3], [3]), ([4], [4]), ([], []), ([6], [6]), ([7], [7]), ([], []), ([9], [9]), ([10], [10]), ([2, 5, 8, 11], [2, 5, 8, 11]), ([12, 0, 1, 2, 3, 4, 5, 6, 7, 8, 9, 10, 11, 12], [12]), ([13, 0, 1, 2, 3, 4, 5, 6, 7, 8, 9, 10, 11, 12, 13], [])])
def bM_.B4 : List Nat := [0, 1, 3, 0, 8, 24, 0, 64, 192, 0, 512, 1536, 4095, 8191, 16383]
theorem bM_.tab4 : rtab .any (opsOf Tryz.f38 4) = bM_.T4 := by kernel_rfl
theorem bM_.bits4 : cC_ bM_.T4.2 bM_.B4 = true := by kernel_rfl
set_option maxHeartbeats 8000000 in
set_option maxRecDepth 100000 in
theorem bM_.calls (k : Nat) (a0 : ByteArray) (r1 : Int) (r2 : Int) (r3 : Int) (r4 : Int) (r5 : Bool) (w : World) (hTab_ : Tab_ w) (h : bM_.f k a0 = some (r1, r2, r3, r4, r5)) :
  Calls Tryz.prog 38 #[.string a0] w fun e w' => e = .returned (.tuple #[.agg #[.int .i64 r1, .int .i64 r2, .int .i64 r3, .int .i64 r4], .bool r5]) ∧ Below w.heap.size w w' := by
 have hu66 := Tryz.underlying66
 have HTab_ := Aside0.mk hTab_
 clear hTab_
 have HB := Aside0.mk (Below.refl w.heap.size w)
 have H : ((bk_.f k a0).bind fun bt102 => (if bt102.2 = true then (if (bt102.1.length : Int) = 4 then (if 0 < (bt102.1.length : Int) then (if 1 < (bt102.1.length : Int) then (if 2 < (bt102.1.length : Int) then (if 3 < (bt102.1.length : Int) then (some (rd bt102.1 0, rd bt102.1 1, rd bt102.1 2, rd bt102.1 3, true)) else (none)) else (none)) else (none)) else (none)) else (some (0, 0, 0, 0, false))) else (some (0, 0, 0, 0, false)))) = some (r1, r2, r3, r4, r5) := h
 clear h
 replace H := Option.bind_eq_some_iff.mp H
 obtain ⟨⟨t102, t103⟩, A20, H⟩ := H
 (try dsimp only at H)
 have A2 := Aside0.mk A20
 clear A20
 by_cases c3 : t103 = true
 rotate_left
 ·replace c3 := Bool.eq_false_iff.mpr c3
  subst c3
  have H1 : (some (0, 0, 0, 0, false)) = some (r1, r2, r3, r4, r5) := by rw [if_neg (show ¬ (false = true) by decide)] at H; exact H
  clear H
  have H := H1
  clear H1
  simp only [Option.some.injEq, Prod.mk.injEq] at H
  obtain ⟨rfl, rfl, rfl, rfl, rfl⟩ := H
  go_enter Tryz.func38, Tryz.ntmps38
  go_wp2_with (first | ((with_reducible refine aI_ (N := 2) rfl ?_); (try (refine cH_ (by rfl) ?_; dsimp only)); refine aR_ ?hg (N := 2) ?hd (cs := #[.int .i64 0, .int .i64 0, .int .i64 0, .int .i64 0]) (t := 66) ?hr ?_; (case hd => rfl); (case hg => rfl); (case hr => (go_simp; try rfl)); intro gb101 hg w19 hbox hb; have BK101 := Aside0.mk (hbox); have GW101 := Aside0.mk ((by rw [hg]; exact (ad_ (bz HB.out)) : w.heap.size ≤ gb101)); have GE101 := Aside0.mk ((by rw [hg]; exact (ad_ (bz HB.out)) : w.heap.size ≤ gb101)); replace HB := Aside0.mk (ac_ (bz HB.out) hb); clear hb hbox hg) | ((with_reducible refine af_ (f := 55) rfl ?_); refine aJ_ (some 8) rfl rfl Tryz.func55 (by kernel_rfl) rfl #[.string a0] rfl (by first | rfl | (simp only [lma_, lmc_, lmn_]; first | done | rfl)) ?_; (with_reducible refine (bk_.calls k a0 t102 false _ ?side1 A2.out).mono ?_); (case side1 => exact bc_ HTab_.out (by repeat (first | (with_reducible first | exact HB.out | apply bA_ | apply bN_ | apply bD_ | refine aa_ ?_ GE101.out)))); rintro e w20 ⟨v104, rfl, ho0, hb⟩; refine ⟨_, rfl, ?_⟩; have HO105 := Aside0.mk (Kd.bz_ ho0 (ad_ (by repeat (first | (with_reducible first | exact HB.out | apply bA_ | apply bN_ | apply bD_ | refine aa_ ?_ GE101.out))))); replace BK101 := Aside0.mk (an_ (kz BK101.out) hb); replace HB := Aside0.mk (ac_ (by repeat (first | (with_reducible first | exact HB.out | apply bA_ | apply bN_ | apply bD_ | refine aa_ ?_ GE101.out))) hb); (try clear hb); (try clear ho0); obtain ⟨hcz21_0, hcz21_1, hcz21_2, hcz21_3⟩ := cz4_ BK101.out; obtain ⟨hfz21_0, hfz21_1, hfz21_2, hfz21_3⟩ := fz4_ BK101.out))
  refine bodyPost_ret (bB_ rfl _ _ gb101 66 #[.int .i64 0, .int .i64 0, .int .i64 0, .int .i64 0] (0, 0) _ rfl (by exact kj4_3 (kj4_2 (kj4_1 (kj4_0 (kz BK101.out))))) Tryz.underlying66 rfl (by kernel_rfl)) rfl ?_
  exact ⟨by first | rfl | (simp [*, ai_, ah_] <;> rfl), by repeat (first | (with_reducible first | exact HB.out | apply bA_ | apply bN_ | apply bD_ | refine aa_ ?_ GE101.out))⟩
 subst c3
 have H1 : (if (t102.length : Int) = 4 then (if 0 < (t102.length : Int) then (if 1 < (t102.length : Int) then (if 2 < (t102.length : Int) then (if 3 < (t102.length : Int) then (some (rd t102 0, rd t102 1, rd t102 2, rd t102 3, true)) else (none)) else (none)) else (none)) else (none)) else (some (0, 0, 0, 0, false))) = some (r1, r2, r3, r4, r5) := by rw [if_pos rfl] at H; exact H
 clear H
 have H := H1
 clear H1
 have HC4 := Aside0.mk H
 clear H
 go_enter Tryz.func38, Tryz.ntmps38
 go_upto_if 17 with (first | ((with_reducible refine aI_ (N := 2) rfl ?_); (try (refine cH_ (by rfl) ?_; dsimp only)); refine aR_ ?hg (N := 2) ?hd (cs := #[.int .i64 0, .int .i64 0, .int .i64 0, .int .i64 0]) (t := 66) ?hr ?_; (case hd => rfl); (case hg => rfl); (case hr => (go_simp; try rfl)); intro gb101 hg w5 hbox hb; have BK101 := Aside0.mk (hbox); have GW101 := Aside0.mk ((by rw [hg]; exact (ad_ (bz HB.out)) : w.heap.size ≤ gb101)); have GE101 := Aside0.mk ((by rw [hg]; exact (ad_ (bz HB.out)) : w.heap.size ≤ gb101)); replace HB := Aside0.mk (ac_ (bz HB.out) hb); clear hb hbox hg) | ((with_reducible refine af_ (f := 55) rfl ?_); refine aJ_ (some 8) rfl rfl Tryz.func55 (by kernel_rfl) rfl #[.string a0] rfl (by first | rfl | (simp only [lma_, lmc_, lmn_]; first | done | rfl)) ?_; (with_reducible refine (bk_.calls k a0 t102 true _ ?side1 A2.out).mono ?_); (case side1 => exact bc_ HTab_.out (by repeat (first | (with_reducible first | exact HB.out | apply bA_ | apply bN_ | apply bD_ | refine aa_ ?_ GE101.out)))); rintro e w6 ⟨v104, rfl, ho0, hb⟩; refine ⟨_, rfl, ?_⟩; have HO105 := Aside0.mk (Kd.bz_ ho0 (ad_ (by repeat (first | (with_reducible first | exact HB.out | apply bA_ | apply bN_ | apply bD_ | refine aa_ ?_ GE101.out))))); replace BK101 := Aside0.mk (an_ (kz BK101.out) hb); replace HB := Aside0.mk (ac_ (by repeat (first | (with_reducible first | exact HB.out | apply bA_ | apply bN_ | apply bD_ | refine aa_ ?_ GE101.out))) hb); (try clear hb); (try clear ho0); obtain ⟨Ao7, co7, eo7⟩ := Kd.bv_ HO105.out; subst eo7))
 (try simp only [Act.put, lsa_, ls0_, ls1_])
 have H := HC4.out
 clear HC4
 by_cases c8 : (t102.length : Int) = 4
 rotate_left
 ·rw [if_neg c8] at H
  have c8b0 : ((t102.length : Int) == 4) = false := beq_eq_false_iff_ne.mpr c8
  have c8b1 : ((t102.length : Int) != 4) = true := bne_iff_ne.mpr c8
  (first | rw [c8b0] | (simp only [i64_w, i32_w]; rw [c8b0]) | (simp only [c8b1, Bool.not_true, Bool.not_false]) | (simp only [c8b0, Bool.not_true, Bool.not_false]) | skip)
  simp only [Option.some.injEq, Prod.mk.injEq] at H
  obtain ⟨rfl, rfl, rfl, rfl, rfl⟩ := H
  obtain ⟨hcz18_0, hcz18_1, hcz18_2, hcz18_3⟩ := cz4_ BK101.out
  obtain ⟨hfz18_0, hfz18_1, hfz18_2, hfz18_3⟩ := fz4_ BK101.out
  go_wp2
  refine bodyPost_ret (bB_ rfl _ _ gb101 66 #[.int .i64 0, .int .i64 0, .int .i64 0, .int .i64 0] (0, 0) _ rfl (by exact kj4_3 (kj4_2 (kj4_1 (kj4_0 (kz BK101.out))))) Tryz.underlying66 rfl (by kernel_rfl)) rfl ?_
  exact ⟨by first | rfl | (simp [*, ai_, ah_] <;> rfl), by repeat (first | (with_reducible first | exact HB.out | apply bA_ | apply bN_ | apply bD_ | refine aa_ ?_ GE101.out))⟩
 rw [if_pos c8] at H
 have c8b0 : ((t102.length : Int) == 4) = true := beq_iff_eq.mpr c8
 have c8b1 : ((t102.length : Int) != 4) = false := bne_eq_false_iff_eq.mpr c8
 clear c8
 (first | rw [c8b0] | (simp only [i64_w, i32_w]; rw [c8b0]) | (simp only [c8b1, Bool.not_true, Bool.not_false]) | (simp only [c8b0, Bool.not_true, Bool.not_false]) | skip)
 by_cases c9 : 0 < (t102.length : Int)
 rotate_left
 ·rw [if_neg c9] at H
  exact absurd H (by simp)
 rw [if_pos c9] at H
 have c9b0 : decide (0 < (t102.length : Int)) = true := decide_eq_true c9
 have c9b1 : decide (0 < t102.length) = true := decide_eq_true (by omega)
 clear c9
 by_cases c10 : 1 < (t102.length : Int)
 rotate_left
 ·rw [if_neg c10] at H
  exact absurd H (by simp)
 rw [if_pos c10] at H
 have c10b0 : decide (1 < (t102.length : Int)) = true := decide_eq_true c10
 have c10b1 : decide (1 < t102.length) = true := decide_eq_true (by omega)
 clear c10
 by_cases c11 : 2 < (t102.length : Int)
 rotate_left
 ·rw [if_neg c11] at H
  exact absurd H (by simp)
 rw [if_pos c11] at H
 have c11b0 : decide (2 < (t102.length : Int)) = true := decide_eq_true c11
 have c11b1 : decide (2 < t102.length) = true := decide_eq_true (by omega)
 clear c11
 by_cases c12 : 3 < (t102.length : Int)
 rotate_left
 ·rw [if_neg c12] at H
  exact absurd H (by simp)
 rw [if_pos c12] at H
 have c12b0 : decide (3 < (t102.length : Int)) = true := decide_eq_true c12
 have c12b1 : decide (3 < t102.length) = true := decide_eq_true (by omega)
 clear c12
 simp only [Option.some.injEq, Prod.mk.injEq] at H
 obtain ⟨rfl, rfl, rfl, rfl, rfl⟩ := H
 try go_wp2
 (try (rw [bm_ w6]; generalize hq_ : World.drewN w6 _ = w6; replace HO105 := Aside0.mk (rqR hq_ HO105.out); replace BK101 := Aside0.mk (rqB hq_ BK101.out); replace HB := Aside0.mk (rqH hq_ HB.out); clear hq_))
 have n0_ := Aside0.mk (Kd.R_drew HO105.out)
 have n1_ := Aside0.mk (bH_ BK101.out)
 have n2_ := Aside0.mk (bD_ HB.out)
 clear HO105
 clear BK101
 clear HB
 have HO105 := n0_
 have BK101 := n1_
 have HB := n2_
 clear n0_ n1_ n2_
 have p106 : 0 ≤ (0 : Int) := (by omega)
 have q106 : 0 < (t102.length : Int) := of_decide_eq_true (by assumption)
 obtain ⟨ad106, e106, hx106_0⟩ := Kd.at_int (Kd.av_ HO105.out).2.2 0 p106 q106
 cases e106
 have qi106 : (0 < t102.length) = True := eq_true (by omega)
 (try rw [show ((0 : Int)).toNat = 0 from rfl] at hx106_0)
 (try rw [Addr.add_zero'] at hx106_0)
 replace p106 := eq_true p106
 replace q106 := eq_true q106
 have p107 : 0 ≤ (1 : Int) := (by omega)
 have q107 : 1 < (t102.length : Int) := of_decide_eq_true (by assumption)
 obtain ⟨ad107, e107, hx107_0⟩ := Kd.at_int (Kd.av_ HO105.out).2.2 1 p107 q107
 obtain rfl : ad106 = ad107 := (by injection e107)
 (try simp only [show (1 : Int).toNat = 1 from rfl, Nat.reduceMul, Nat.reduceEqDiff, Go.Addr.add, ↓reduceIte] at hx107_0)
 have qi107 : (1 < t102.length) = True := eq_true (by omega)
 (try rw [show ((1 : Int)).toNat = 1 from rfl] at hx107_0)
 replace p107 := eq_true p107
 replace q107 := eq_true q107
 have p108 : 0 ≤ (2 : Int) := (by omega)
 have q108 : 2 < (t102.length : Int) := of_decide_eq_true (by assumption)
 obtain ⟨ad108, e108, hx108_0⟩ := Kd.at_int (Kd.av_ HO105.out).2.2 2 p108 q108
 obtain rfl : ad106 = ad108 := (by injection e108)
 (try simp only [show (2 : Int).toNat = 2 from rfl, Nat.reduceMul, Nat.reduceEqDiff, Go.Addr.add, ↓reduceIte] at hx108_0)
 have qi108 : (2 < t102.length) = True := eq_true (by omega)
 (try rw [show ((2 : Int)).toNat = 2 from rfl] at hx108_0)
 replace p108 := eq_true p108
 replace q108 := eq_true q108
 have p109 : 0 ≤ (3 : Int) := (by omega)
 have q109 : 3 < (t102.length : Int) := of_decide_eq_true (by assumption)
 obtain ⟨ad109, e109, hx109_0⟩ := Kd.at_int (Kd.av_ HO105.out).2.2 3 p109 q109
 obtain rfl : ad106 = ad109 := (by injection e109)
 (try simp only [show (3 : Int).toNat = 3 from rfl, Nat.reduceMul, Nat.reduceEqDiff, Go.Addr.add, ↓reduceIte] at hx109_0)
 have qi109 : (3 < t102.length) = True := eq_true (by omega)
 (try rw [show ((3 : Int)).toNat = 3 from rfl] at hx109_0)
 replace p109 := eq_true p109
 replace q109 := eq_true q109
 refine start_ (n := 15) (S := fun w' => w'.cell? ad106 = some (.int .i64 (rd t102 0)) ∧ w'.cell? ⟨ad106.block, ad106.off + 1, none⟩ = some (.int .i64 (rd t102 1)) ∧ w'.cell? ⟨ad106.block, ad106.off + 2, none⟩ = some (.int .i64 (rd t102 2)) ∧ w'.cell? ⟨ad106.block, ad106.off + 3, none⟩ = some (.int .i64 (rd t102 3))) (ds := []) #[f_,f_,f_,f_,f_,f_,f_,f_,f_,f_,f_,f_,f_,f_,f_] (by kernel_rfl) rfl rfl ⟨hx106_0, hx107_0, hx108_0, hx109_0⟩ (fun hHeld => ?_); refine cl_ bM_.tab4 bM_.bits4 (fun HT_ HW_ => ?_)
 generalize w6.drew = w13 at HO105 BK101 HB hx106_0 hx107_0 hx108_0 hx109_0 hHeld ⊢
 refine pure_ (i := 0) (N := some 19) (v := ?_) (a' := ?_) #[t_,f_,f_,f_,f_,f_,f_,f_,f_,f_,f_,f_,f_,f_,f_] rfl rfl (aH_ HT_.out (by kernel_rfl)) (fun _ _ _ h => h) (Or.inl ⟨by rfl, ?_⟩) ?_ ?_
 rotate_left
 ·intro w'
  go_simp
  with_reducible rfl
 rotate_left
 ·simp only [Act.put, lsa_, ls0_, ls1_, i64_w, i32_w]
  rfl
 refine pure_ (i := 1) (N := some 20) (v := ?_) (a' := ?_) #[t_,t_,f_,f_,f_,f_,f_,f_,f_,f_,f_,f_,f_,f_,f_] rfl rfl (aH_ HT_.out (by kernel_rfl)) (fun _ _ _ h => h) (Or.inl ⟨by rfl, ?_⟩) ?_ ?_
 rotate_left
 ·intro w'
  go_simp
  with_reducible rfl
 rotate_left
 ·simp only [Act.put, lsa_, ls0_, ls1_, i64_w, i32_w]
  rfl
 refine pure_ (i := 3) (N := some 22) (v := ?_) (a' := ?_) #[t_,t_,f_,t_,f_,f_,f_,f_,f_,f_,f_,f_,f_,f_,f_] rfl rfl (aH_ HT_.out (by kernel_rfl)) (fun _ _ _ h => h) (Or.inl ⟨by rfl, ?_⟩) ?_ ?_
 rotate_left
 ·intro w'
  go_simp
  with_reducible rfl
 rotate_left
 ·simp only [Act.put, lsa_, ls0_, ls1_, i64_w, i32_w]
  rfl
 refine pure_ (i := 4) (N := some 23) (v := ?_) (a' := ?_) #[t_,t_,f_,t_,t_,f_,f_,f_,f_,f_,f_,f_,f_,f_,f_] rfl rfl (aH_ HT_.out (by kernel_rfl)) (fun _ _ _ h => h) (Or.inl ⟨by rfl, ?_⟩) ?_ ?_
 rotate_left
 ·intro w'
  go_simp
  with_reducible rfl
 rotate_left
 ·simp only [Act.put, lsa_, ls0_, ls1_, i64_w, i32_w]
  rfl
 refine pure_ (i := 6) (N := some 25) (v := ?_) (a' := ?_) #[t_,t_,f_,t_,t_,f_,t_,f_,f_,f_,f_,f_,f_,f_,f_] rfl rfl (aH_ HT_.out (by kernel_rfl)) (fun _ _ _ h => h) (Or.inl ⟨by rfl, ?_⟩) ?_ ?_
 rotate_left
 ·intro w'
  go_simp
  with_reducible rfl
 rotate_left
 ·simp only [Act.put, lsa_, ls0_, ls1_, i64_w, i32_w]
  rfl
 refine pure_ (i := 7) (N := some 26) (v := ?_) (a' := ?_) #[t_,t_,f_,t_,t_,f_,t_,t_,f_,f_,f_,f_,f_,f_,f_] rfl rfl (aH_ HT_.out (by kernel_rfl)) (fun _ _ _ h => h) (Or.inl ⟨by rfl, ?_⟩) ?_ ?_
 rotate_left
 ·intro w'
  go_simp
  with_reducible rfl
 rotate_left
 ·simp only [Act.put, lsa_, ls0_, ls1_, i64_w, i32_w]
  rfl
 refine pure_ (i := 9) (N := some 28) (v := ?_) (a' := ?_) #[t_,t_,f_,t_,t_,f_,t_,t_,f_,t_,f_,f_,f_,f_,f_] rfl rfl (aH_ HT_.out (by kernel_rfl)) (fun _ _ _ h => h) (Or.inl ⟨by rfl, ?_⟩) ?_ ?_
 rotate_left
 ·intro w'
  go_simp
  with_reducible rfl
 rotate_left
 ·simp only [Act.put, lsa_, ls0_, ls1_, i64_w, i32_w]
  rfl
 refine pure_ (i := 10) (N := some 29) (v := ?_) (a' := ?_) #[t_,t_,f_,t_,t_,f_,t_,t_,f_,t_,t_,f_,f_,f_,f_] rfl rfl (aH_ HT_.out (by kernel_rfl)) (fun _ _ _ h => h) (Or.inl ⟨by rfl, ?_⟩) ?_ ?_
 rotate_left
 ·intro w'
  go_simp
  with_reducible rfl
 rotate_left
 ·simp only [Act.put, lsa_, ls0_, ls1_, i64_w, i32_w]
  rfl
 refine take_ (i := 2) (N := some 21) (v := ?_) (a' := ?_) #[t_,t_,t_,t_,t_,f_,t_,t_,f_,t_,t_,f_,f_,f_,f_] rfl rfl (bt_ HT_.out HW_.out (by kernel_rfl)) (fun _ _ _ h => h) (Or.inl ⟨by rfl, ?_⟩) hHeld ?_ ?_
 rotate_left
 ·rintro w' ⟨s0, s1, s2, s3⟩
  go_simp
  with_reducible rfl
 rotate_left
 ·simp only [Act.put, lsa_, ls0_, ls1_, i64_w, i32_w]
  rfl
 refine take_ (i := 5) (N := some 24) (v := ?_) (a' := ?_) #[t_,t_,t_,t_,t_,t_,t_,t_,f_,t_,t_,f_,f_,f_,f_] rfl rfl (bt_ HT_.out HW_.out (by kernel_rfl)) (fun _ _ _ h => h) (Or.inl ⟨by rfl, ?_⟩) hHeld ?_ ?_
 rotate_left
 ·rintro w' ⟨s0, s1, s2, s3⟩
  go_simp
  with_reducible rfl
 rotate_left
 ·simp only [Act.put, lsa_, ls0_, ls1_, i64_w, i32_w]
  rfl
 refine take_ (i := 8) (N := some 27) (v := ?_) (a' := ?_) #[t_,t_,t_,t_,t_,t_,t_,t_,t_,t_,t_,f_,f_,f_,f_] rfl rfl (bt_ HT_.out HW_.out (by kernel_rfl)) (fun _ _ _ h => h) (Or.inl ⟨by rfl, ?_⟩) hHeld ?_ ?_
 rotate_left
 ·rintro w' ⟨s0, s1, s2, s3⟩
  go_simp
  with_reducible rfl
 rotate_left
 ·simp only [Act.put, lsa_, ls0_, ls1_, i64_w, i32_w]
  rfl
 refine take_ (i := 11) (N := some 30) (v := ?_) (a' := ?_) #[t_,t_,t_,t_,t_,t_,t_,t_,t_,t_,t_,t_,f_,f_,f_] rfl rfl (bt_ HT_.out HW_.out (by kernel_rfl)) (fun _ _ _ h => h) (Or.inl ⟨by rfl, ?_⟩) hHeld ?_ ?_
 rotate_left
 ·rintro w' ⟨s0, s1, s2, s3⟩
  go_simp
  with_reducible rfl
 rotate_left
 ·simp only [Act.put, lsa_, ls0_, ls1_, i64_w, i32_w]
  rfl
 refine pure_ (i := 12) (N := some 31) (v := ?_) (a' := ?_) #[t_,t_,t_,t_,t_,t_,t_,t_,t_,t_,t_,t_,t_,f_,f_] rfl rfl (aH_ HT_.out (by kernel_rfl)) (fun _ _ _ h => h) (Or.inl ⟨by rfl, ?_⟩) ?_ ?_
 rotate_left
 ·intro w'
  go_simp
  with_reducible rfl
 rotate_left
 ·simp only [Act.put, lsa_, ls0_, ls1_, i64_w, i32_w]
  rfl
 refine one_ (i := 13) (N := none) #[t_,t_,t_,t_,t_,t_,t_,t_,t_,t_,t_,t_,t_,t_,f_] rfl rfl (ct_ HT_.out (by kernel_rfl)) (by decide) (fun K hK => ?_)
 have hs14 : w13.cell? ⟨gb101, 0, none⟩ = some (.int .i64 0) := (am_ BK101.out 0).trans rfl
 have hfs14 := aY_ BK101.out 0
 have hs15 : w13.cell? ⟨gb101, 1, none⟩ = some (.int .i64 0) := (am_ BK101.out 1).trans rfl
 have hfs15 := aY_ BK101.out 1
 have hs16 : w13.cell? ⟨gb101, 2, none⟩ = some (.int .i64 0) := (am_ BK101.out 2).trans rfl
 have hfs16 := aY_ BK101.out 2
 have hs17 : w13.cell? ⟨gb101, 3, none⟩ = some (.int .i64 0) := (am_ BK101.out 3).trans rfl
 have hfs17 := aY_ BK101.out 3
 refine skip_ (w1 := ?_) (by rfl) rfl ?_ ?_
 rotate_left
 ·go_simp
  rfl
 refine hK.out _ _ ⟨(cf ((cf ((cf ((cf (hHeld.1) (by first | exact Kd.aE_ (Kd.R_ne HO105.out BK101.out (by decide)) | (dsimp only; exact Kd.aE_ (Kd.R_ne HO105.out BK101.out (by decide)))))) (by first | exact Kd.aE_ (Kd.R_ne HO105.out BK101.out (by decide)) | (dsimp only; exact Kd.aE_ (Kd.R_ne HO105.out BK101.out (by decide)))))) (by first | exact Kd.aE_ (Kd.R_ne HO105.out BK101.out (by decide)) | (dsimp only; exact Kd.aE_ (Kd.R_ne HO105.out BK101.out (by decide)))))) (by first | exact Kd.aE_ (Kd.R_ne HO105.out BK101.out (by decide)) | (dsimp only; exact Kd.aE_ (Kd.R_ne HO105.out BK101.out (by decide))))), (cf ((cf ((cf ((cf (hHeld.2.1) (by first | exact Kd.aE_ (Kd.R_ne HO105.out BK101.out (by decide)) | (dsimp only; exact Kd.aE_ (Kd.R_ne HO105.out BK101.out (by decide)))))) (by first | exact Kd.aE_ (Kd.R_ne HO105.out BK101.out (by decide)) | (dsimp only; exact Kd.aE_ (Kd.R_ne HO105.out BK101.out (by decide)))))) (by first | exact Kd.aE_ (Kd.R_ne HO105.out BK101.out (by decide)) | (dsimp only; exact Kd.aE_ (Kd.R_ne HO105.out BK101.out (by decide)))))) (by first | exact Kd.aE_ (Kd.R_ne HO105.out BK101.out (by decide)) | (dsimp only; exact Kd.aE_ (Kd.R_ne HO105.out BK101.out (by decide))))), (cf ((cf ((cf ((cf (hHeld.2.2.1) (by first | exact Kd.aE_ (Kd.R_ne HO105.out BK101.out (by decide)) | (dsimp only; exact Kd.aE_ (Kd.R_ne HO105.out BK101.out (by decide)))))) (by first | exact Kd.aE_ (Kd.R_ne HO105.out BK101.out (by decide)) | (dsimp only; exact Kd.aE_ (Kd.R_ne HO105.out BK101.out (by decide)))))) (by first | exact Kd.aE_ (Kd.R_ne HO105.out BK101.out (by decide)) | (dsimp only; exact Kd.aE_ (Kd.R_ne HO105.out BK101.out (by decide)))))) (by first | exact Kd.aE_ (Kd.R_ne HO105.out BK101.out (by decide)) | (dsimp only; exact Kd.aE_ (Kd.R_ne HO105.out BK101.out (by decide))))), (cf ((cf ((cf ((cf (hHeld.2.2.2) (by first | exact Kd.aE_ (Kd.R_ne HO105.out BK101.out (by decide)) | (dsimp only; exact Kd.aE_ (Kd.R_ne HO105.out BK101.out (by decide)))))) (by first | exact Kd.aE_ (Kd.R_ne HO105.out BK101.out (by decide)) | (dsimp only; exact Kd.aE_ (Kd.R_ne HO105.out BK101.out (by decide)))))) (by first | exact Kd.aE_ (Kd.R_ne HO105.out BK101.out (by decide)) | (dsimp only; exact Kd.aE_ (Kd.R_ne HO105.out BK101.out (by decide)))))) (by first | exact Kd.aE_ (Kd.R_ne HO105.out BK101.out (by decide)) | (dsimp only; exact Kd.aE_ (Kd.R_ne HO105.out BK101.out (by decide)))))⟩ (fun hHeld => ?_)
 clear hK K
 refine pure_ (i := 14) (N := some 3) (v := ?_) (a' := ?_) #[t_,t_,t_,t_,t_,t_,t_,t_,t_,t_,t_,t_,t_,t_,t_] rfl rfl (aH_ HT_.out (by kernel_rfl)) (fun _ _ _ h => h) (Or.inl ⟨by rfl, ?_⟩) ?_ ?_
 rotate_left
 ·intro w'
  go_simp
  with_reducible rfl
 rotate_left
 ·simp only [Act.put, lsa_, ls0_, ls1_, i64_w, i32_w]
  rfl
 refine done_ (cN_ HT_.out (by kernel_rfl)) ?_
 try go_wp2
 refine bodyPost_ret (bB_ rfl _ _ gb101 66 #[.int .i64 (rd t102 0), .int .i64 (rd t102 1), .int .i64 (rd t102 2), .int .i64 (rd t102 3)] (0, 0) _ rfl (by exact kj4_3 (kj4_2 (kj4_1 (kj4_0 (kz BK101.out))))) Tryz.underlying66 rfl (by kernel_rfl)) rfl ?_
 exact ⟨by first | rfl | (simp [*, ai_, ah_] <;> rfl), by repeat (first | (with_reducible first | exact HB.out | apply bA_ | apply bN_ | apply bD_ | refine aa_ ?_ GE101.out))⟩
def cr_.f (a0_0 : Int) (a0_1 : Int) (a0_2 : Int) (a0_3 : Int) (a1 : Int) (a2 : Int) : Option (Bool) := (ar_.f a0_0 0 a1).bind fun t102 => (if t102 = true then ((ar_.f a0_1 0 a2).bind fun t103 => (if t103 = true then ((ar_.f a0_2 1 (wrap64 (a1 - a0_0))).bind fun t104 => (if t104 = true then ((ar_.f a0_3 1 (wrap64 (a2 - a0_1))).bind fun t105 => (some t105)) else (some false))) else (some false))) else (some false))
set_option maxHeartbeats 8000000 in
set_option maxRecDepth 100000 in
theorem cr_.calls (a0_0 : Int) (a0_1 : Int) (a0_2 : Int) (a0_3 : Int) (a1 : Int) (a2 : Int) (r : Bool) (w : World) (h : cr_.f a0_0 a0_1 a0_2 a0_3 a1 a2 = some r) :
  Calls Tryz.prog 76 #[.agg #[.int .i64 a0_0, .int .i64 a0_1, .int .i64 a0_2, .int .i64 a0_3], .int .i64 a1, .int .i64 a2] w fun e w' => e = .returned (.bool r) ∧ Below w.heap.size w w' := by
 have hu66 := Tryz.underlying66
 have HB := Aside0.mk (Below.refl w.heap.size w)
 have H : ((ar_.f a0_0 0 a1).bind fun t102 => (if t102 = true then ((ar_.f a0_1 0 a2).bind fun t103 => (if t103 = true then ((ar_.f a0_2 1 (wrap64 (a1 - a0_0))).bind fun t104 => (if t104 = true then ((ar_.f a0_3 1 (wrap64 (a2 - a0_1))).bind fun t105 => (some t105)) else (some false))) else (some false))) else (some false))) = some r := h
 clear h
 replace H := Option.bind_eq_some_iff.mp H
 obtain ⟨t102, A40, H⟩ := H
 (try dsimp only at H)
 have A4 := Aside0.mk A40
 clear A40
 by_cases c5 : t102 = true
 rotate_left
 ·replace c5 := Bool.eq_false_iff.mpr c5
  subst c5
  have H1 : (some false) = some r := by rw [if_neg (show ¬ (false = true) by decide)] at H; exact H
  clear H
  have H := H1
  clear H1
  obtain rfl := Option.some.inj H
  go_enter Tryz.func76, Tryz.ntmps76
  go_wp2_with (first | ((with_reducible refine aI_ (N := 3) rfl ?_); refine aR_ ?hg (N := 3) ?hd (cs := #[.int .i64 a0_0, .int .i64 a0_1, .int .i64 a0_2, .int .i64 a0_3]) (t := 66) ?hr ?_; (case hd => rfl); (case hg => rfl); (case hr => (go_simp; try rfl)); intro gb101 hg w17 hbox hb; have BK101 := Aside0.mk (hbox); have GW101 := Aside0.mk ((by rw [hg]; exact (ad_ (bz HB.out)) : w.heap.size ≤ gb101)); have GE101 := Aside0.mk ((by rw [hg]; exact (ad_ (bz HB.out)) : w.heap.size ≤ gb101)); replace HB := Aside0.mk (ac_ (bz HB.out) hb); clear hb hbox hg; obtain ⟨hcz18_0, hcz18_1, hcz18_2, hcz18_3⟩ := cz4_ BK101.out; obtain ⟨hfz18_0, hfz18_1, hfz18_2, hfz18_3⟩ := fz4_ BK101.out) | ((with_reducible refine af_ (f := 72) rfl ?_); refine aJ_ (some 10) rfl rfl Tryz.func72 (by kernel_rfl) rfl #[.int .i64 a0_0, .int .i64 0, .int .i64 a1] rfl (by first | rfl | (simp only [lma_, lmc_, lmn_]; first | done | rfl)) ?_; (with_reducible refine (ar_.calls a0_0 0 a1 false _ A4.out).mono ?_); rintro e w' ⟨rfl, ⟨nd, rfl⟩⟩; refine ⟨_, rfl, ?_⟩))
  go_ret
  exact ⟨by first | rfl | (simp [*, ai_, ah_] <;> rfl), by repeat (first | (with_reducible first | exact HB.out | apply bA_ | apply bN_ | apply bD_ | refine aa_ ?_ GE101.out))⟩
 subst c5
 have H1 : ((ar_.f a0_1 0 a2).bind fun t103 => (if t103 = true then ((ar_.f a0_2 1 (wrap64 (a1 - a0_0))).bind fun t104 => (if t104 = true then ((ar_.f a0_3 1 (wrap64 (a2 - a0_1))).bind fun t105 => (some t105)) else (some false))) else (some false))) = some r := by rw [if_pos rfl] at H; exact H
 clear H
 have H := H1
 clear H1
 replace H := Option.bind_eq_some_iff.mp H
 obtain ⟨t103, A60, H⟩ := H
 (try dsimp only at H)
 have A6 := Aside0.mk A60
 clear A60
 by_cases c7 : t103 = true
 rotate_left
 ·replace c7 := Bool.eq_false_iff.mpr c7
  subst c7
  have H1 : (some false) = some r := by rw [if_neg (show ¬ (false = true) by decide)] at H; exact H
  clear H
  have H := H1
  clear H1
  obtain rfl := Option.some.inj H
  go_enter Tryz.func76, Tryz.ntmps76
  go_wp2_with (first | ((with_reducible refine aI_ (N := 3) rfl ?_); refine aR_ ?hg (N := 3) ?hd (cs := #[.int .i64 a0_0, .int .i64 a0_1, .int .i64 a0_2, .int .i64 a0_3]) (t := 66) ?hr ?_; (case hd => rfl); (case hg => rfl); (case hr => (go_simp; try rfl)); intro gb101 hg w15 hbox hb; have BK101 := Aside0.mk (hbox); have GW101 := Aside0.mk ((by rw [hg]; exact (ad_ (bz HB.out)) : w.heap.size ≤ gb101)); have GE101 := Aside0.mk ((by rw [hg]; exact (ad_ (bz HB.out)) : w.heap.size ≤ gb101)); replace HB := Aside0.mk (ac_ (bz HB.out) hb); clear hb hbox hg; obtain ⟨hcz16_0, hcz16_1, hcz16_2, hcz16_3⟩ := cz4_ BK101.out; obtain ⟨hfz16_0, hfz16_1, hfz16_2, hfz16_3⟩ := fz4_ BK101.out) | ((with_reducible refine af_ (f := 72) rfl ?_); refine aJ_ (some 10) rfl rfl Tryz.func72 (by kernel_rfl) rfl #[.int .i64 a0_0, .int .i64 0, .int .i64 a1] rfl (by first | rfl | (simp only [lma_, lmc_, lmn_]; first | done | rfl)) ?_; (with_reducible refine (ar_.calls a0_0 0 a1 true _ A4.out).mono ?_); rintro e w' ⟨rfl, ⟨nd, rfl⟩⟩; refine ⟨_, rfl, ?_⟩) | (go_at_call 72; (with_reducible refine (ar_.calls a0_1 0 a2 false _ A6.out).mono ?_); rintro e w' ⟨rfl, ⟨nd, rfl⟩⟩))
  go_ret
  exact ⟨by first | rfl | (simp [*, ai_, ah_] <;> rfl), by repeat (first | (with_reducible first | exact HB.out | apply bA_ | apply bN_ | apply bD_ | refine aa_ ?_ GE101.out))⟩
 subst c7
 have H1 : ((ar_.f a0_2 1 (wrap64 (a1 - a0_0))).bind fun t104 => (if t104 = true then ((ar_.f a0_3 1 (wrap64 (a2 - a0_1))).bind fun t105 => (some t105)) else (some false))) = some r := by rw [if_pos rfl] at H; exact H
 clear H
 have H := H1
 clear H1
 replace H := Option.bind_eq_some_iff.mp H
 obtain ⟨t104, A80, H⟩ := H
 (try dsimp only at H)
 have A8 := Aside0.mk A80
 clear A80
 by_cases c9 : t104 = true
 rotate_left
 ·replace c9 := Bool.eq_false_iff.mpr c9
  subst c9
  have H1 : (some false) = some r := by rw [if_neg (show ¬ (false = true) by decide)] at H; exact H
  clear H
  have H := H1
  clear H1
  obtain rfl := Option.some.inj H
  go_enter Tryz.func76, Tryz.ntmps76
  go_wp2_with (first | ((with_reducible refine aI_ (N := 3) rfl ?_); refine aR_ ?hg (N := 3) ?hd (cs := #[.int .i64 a0_0, .int .i64 a0_1, .int .i64 a0_2, .int .i64 a0_3]) (t := 66) ?hr ?_; (case hd => rfl); (case hg => rfl); (case hr => (go_simp; try rfl)); intro gb101 hg w13 hbox hb; have BK101 := Aside0.mk (hbox); have GW101 := Aside0.mk ((by rw [hg]; exact (ad_ (bz HB.out)) : w.heap.size ≤ gb101)); have GE101 := Aside0.mk ((by rw [hg]; exact (ad_ (bz HB.out)) : w.heap.size ≤ gb101)); replace HB := Aside0.mk (ac_ (bz HB.out) hb); clear hb hbox hg; obtain ⟨hcz14_0, hcz14_1, hcz14_2, hcz14_3⟩ := cz4_ BK101.out; obtain ⟨hfz14_0, hfz14_1, hfz14_2, hfz14_3⟩ := fz4_ BK101.out) | ((with_reducible refine af_ (f := 72) rfl ?_); refine aJ_ (some 10) rfl rfl Tryz.func72 (by kernel_rfl) rfl #[.int .i64 a0_0, .int .i64 0, .int .i64 a1] rfl (by first | rfl | (simp only [lma_, lmc_, lmn_]; first | done | rfl)) ?_; (with_reducible refine (ar_.calls a0_0 0 a1 true _ A4.out).mono ?_); rintro e w' ⟨rfl, ⟨nd, rfl⟩⟩; refine ⟨_, rfl, ?_⟩) | (go_at_call 72; (with_reducible refine (ar_.calls a0_1 0 a2 true _ A6.out).mono ?_); rintro e w' ⟨rfl, ⟨nd, rfl⟩⟩) | (go_at_call 72; (with_reducible refine (ar_.calls a0_2 1 (wrap64 (a1 - a0_0)) false _ A8.out).mono ?_); rintro e w' ⟨rfl, ⟨nd, rfl⟩⟩))
  go_ret
  exact ⟨by first | rfl | (simp [*, ai_, ah_] <;> rfl), by repeat (first | (with_reducible first | exact HB.out | apply bA_ | apply bN_ | apply bD_ | refine aa_ ?_ GE101.out))⟩
 subst c9
 have H1 : ((ar_.f a0_3 1 (wrap64 (a2 - a0_1))).bind fun t105 => (some t105)) = some r := by rw [if_pos rfl] at H; exact H
 clear H
 have H := H1
 clear H1
 replace H := Option.bind_eq_some_iff.mp H
 obtain ⟨t105, A100, H⟩ := H
 (try dsimp only at H)
 have A10 := Aside0.mk A100
 clear A100
 obtain rfl := Option.some.inj H
 go_enter Tryz.func76, Tryz.ntmps76
 go_wp2_with (first | ((with_reducible refine aI_ (N := 3) rfl ?_); refine aR_ ?hg (N := 3) ?hd (cs := #[.int .i64 a0_0, .int .i64 a0_1, .int .i64 a0_2, .int .i64 a0_3]) (t := 66) ?hr ?_; (case hd => rfl); (case hg => rfl); (case hr => (go_simp; try rfl)); intro gb101 hg w11 hbox hb; have BK101 := Aside0.mk (hbox); have GW101 := Aside0.mk ((by rw [hg]; exact (ad_ (bz HB.out)) : w.heap.size ≤ gb101)); have GE101 := Aside0.mk ((by rw [hg]; exact (ad_ (bz HB.out)) : w.heap.size ≤ gb101)); replace HB := Aside0.mk (ac_ (bz HB.out) hb); clear hb hbox hg; obtain ⟨hcz12_0, hcz12_1, hcz12_2, hcz12_3⟩ := cz4_ BK101.out; obtain ⟨hfz12_0, hfz12_1, hfz12_2, hfz12_3⟩ := fz4_ BK101.out) | ((with_reducible refine af_ (f := 72) rfl ?_); refine aJ_ (some 10) rfl rfl Tryz.func72 (by kernel_rfl) rfl #[.int .i64 a0_0, .int .i64 0, .int .i64 a1] rfl (by first | rfl | (simp only [lma_, lmc_, lmn_]; first | done | rfl)) ?_; (with_reducible refine (ar_.calls a0_0 0 a1 true _ A4.out).mono ?_); rintro e w' ⟨rfl, ⟨nd, rfl⟩⟩; refine ⟨_, rfl, ?_⟩) | (go_at_call 72; (with_reducible refine (ar_.calls a0_1 0 a2 true _ A6.out).mono ?_); rintro e w' ⟨rfl, ⟨nd, rfl⟩⟩) | (go_at_call 72; (with_reducible refine (ar_.calls a0_2 1 (wrap64 (a1 - a0_0)) true _ A8.out).mono ?_); rintro e w' ⟨rfl, ⟨nd, rfl⟩⟩) | (go_at_call 72; (with_reducible refine (ar_.calls a0_3 1 (wrap64 (a2 - a0_1)) t105 _ A10.out).mono ?_); rintro e w' ⟨rfl, ⟨nd, rfl⟩⟩))
 go_ret
 exact ⟨by first | rfl | (simp [*, ai_, ah_] <;> rfl), by repeat (first | (with_reducible first | exact HB.out | apply bA_ | apply bN_ | apply bD_ | refine aa_ ?_ GE101.out))⟩
def cm_.f (a0_0 : Int) (a0_1 : Int) (a0_2 : Int) (a0_3 : Int) (l1 : List (S43)) : Option (Bool) := if 0 < (l1.length : Int) then ((cr_.f a0_0 a0_1 a0_2 a0_3 ((ab_ l1 0).f4) ((ab_ l1 0).f5)).bind fun t104 => (some (!t104))) else (none)
set_option maxHeartbeats 8000000 in
set_option maxRecDepth 100000 in
theorem cm_.calls (a0_0 : Int) (a0_1 : Int) (a0_2 : Int) (a0_3 : Int) (A1 : Option Addr) (l1 : List (S43)) (r : Bool) (w : World) (hr1 : Kd.C k43 w A1 l1.length l1) (h : cm_.f a0_0 a0_1 a0_2 a0_3 l1 = some r) :
  Calls Tryz.prog 75 #[.agg #[.int .i64 a0_0, .int .i64 a0_1, .int .i64 a0_2, .int .i64 a0_3], .pointer A1] w fun e w' => e = .returned (.bool r) ∧ Below w.heap.size w w' := by
 have hu66 := Tryz.underlying66
 have HR1 := Aside0.mk hr1
 clear hr1
 have HB := Aside0.mk (Below.refl w.heap.size w)
 have H : (if 0 < (l1.length : Int) then ((cr_.f a0_0 a0_1 a0_2 a0_3 ((ab_ l1 0).f4) ((ab_ l1 0).f5)).bind fun t104 => (some (!t104))) else (none)) = some r := h
 clear h
 by_cases c3 : 0 < (l1.length : Int)
 rotate_left
 ·rw [if_neg c3] at H
  exact absurd H (by simp)
 rw [if_pos c3] at H
 have c3b0 : decide (0 < (l1.length : Int)) = true := decide_eq_true c3
 have c3b1 : decide (0 < l1.length) = true := decide_eq_true (by omega)
 clear c3
 replace H := Option.bind_eq_some_iff.mp H
 obtain ⟨t104, A40, H⟩ := H
 (try dsimp only at H)
 have A4 := Aside0.mk A40
 clear A40
 obtain rfl := Option.some.inj H
 go_enter Tryz.func75, Tryz.ntmps75
 go_wp2_with (first | ((with_reducible refine aI_ (N := 2) rfl ?_); refine aR_ ?hg (N := 2) ?hd (cs := #[.int .i64 a0_0, .int .i64 a0_1, .int .i64 a0_2, .int .i64 a0_3]) (t := 66) ?hr ?_; (case hd => rfl); (case hg => rfl); (case hr => (go_simp; try rfl)); intro gb101 hg w5 hbox hb; have BK101 := Aside0.mk (hbox); have GW101 := Aside0.mk ((by rw [hg]; exact (ad_ (bz HB.out)) : w.heap.size ≤ gb101)); have GE101 := Aside0.mk ((by rw [hg]; exact (ad_ (bz HB.out)) : w.heap.size ≤ gb101)); replace HB := Aside0.mk (ac_ (bz HB.out) hb); clear hb hbox hg; obtain ⟨hcz6_0, hcz6_1, hcz6_2, hcz6_3⟩ := cz4_ BK101.out; obtain ⟨hfz6_0, hfz6_1, hfz6_2, hfz6_3⟩ := fz4_ BK101.out; have p102 : 0 ≤ (0 : Int) := (by omega); have q102 : 0 < (l1.length : Int) := of_decide_eq_true (by assumption); obtain ⟨ad102, A102_8, c102_8, e102, hx102_0, hx102_1, hx102_2, hx102_3, hx102_4, hx102_5, hx102_6, hx102_7, hx102_8, hl102_8, hi102_8⟩ := bS_ HR1.out 0 p102 q102; cases e102; have qi102 : (0 < l1.length) = True := eq_true (by omega); (try simp only [Int.toNat_zero, Nat.zero_mul, Addr.add_zero'] at hx102_0 hx102_1); (try simp only [Int.toNat_zero, Nat.zero_mul, Addr.add_zero'] at hx102_2 hx102_3); (try simp only [Int.toNat_zero, Nat.zero_mul, Addr.add_zero'] at hx102_4 hx102_5); (try simp only [Int.toNat_zero, Nat.zero_mul, Addr.add_zero'] at hx102_6 hx102_7 hx102_8); replace hx102_0 := bu_ HB.out hx102_0; replace hx102_1 := bu_ HB.out hx102_1; replace hx102_2 := bu_ HB.out hx102_2; replace hx102_3 := bu_ HB.out hx102_3; replace hx102_4 := bu_ HB.out hx102_4; replace hx102_5 := bu_ HB.out hx102_5; replace hx102_6 := bu_ HB.out hx102_6; replace hx102_7 := bu_ HB.out hx102_7; replace hx102_8 := bu_ HB.out hx102_8; have HR102_8 := Aside0.mk hi102_8; have HC102_8 := Aside0.mk hl102_8; clear hi102_8 hl102_8; replace p102 := eq_true p102; replace q102 := eq_true q102; have p103 : 0 ≤ (0 : Int) := (by omega); have q103 : 0 < (l1.length : Int) := of_decide_eq_true (by assumption); obtain ⟨ad103, A103_8, c103_8, e103, hx103_0, hx103_1, hx103_2, hx103_3, hx103_4, hx103_5, hx103_6, hx103_7, hx103_8, hl103_8, hi103_8⟩ := bS_ HR1.out 0 p103 q103; obtain rfl : ad102 = ad103 := (by injection e103); have qi103 : (0 < l1.length) = True := eq_true (by omega); (try simp only [Int.toNat_zero, Nat.zero_mul, Addr.add_zero'] at hx103_0 hx103_1); (try simp only [Int.toNat_zero, Nat.zero_mul, Addr.add_zero'] at hx103_2 hx103_3); (try simp only [Int.toNat_zero, Nat.zero_mul, Addr.add_zero'] at hx103_4 hx103_5); (try simp only [Int.toNat_zero, Nat.zero_mul, Addr.add_zero'] at hx103_6 hx103_7 hx103_8); replace hx103_0 := bu_ HB.out hx103_0; replace hx103_1 := bu_ HB.out hx103_1; replace hx103_2 := bu_ HB.out hx103_2; replace hx103_3 := bu_ HB.out hx103_3; replace hx103_4 := bu_ HB.out hx103_4; replace hx103_5 := bu_ HB.out hx103_5; replace hx103_6 := bu_ HB.out hx103_6; replace hx103_7 := bu_ HB.out hx103_7; replace hx103_8 := bu_ HB.out hx103_8; have HR103_8 := Aside0.mk hi103_8; have HC103_8 := Aside0.mk hl103_8; clear hi103_8 hl103_8; replace p103 := eq_true p103; replace q103 := eq_true q103; have ea_ := Option.some.inj (hx102_8.symm.trans hx103_8); injection ea_ with ea_ en_ ec_; (try subst ea_); (try subst ec_); (try clear ea_ ec_); clear en_) | ((with_reducible refine af_ (f := 76) rfl ?_); refine aJ_ (some 9) rfl rfl Tryz.func76 (by kernel_rfl) rfl #[.agg #[.int .i64 a0_0, .int .i64 a0_1, .int .i64 a0_2, .int .i64 a0_3], .int .i64 ((ab_ l1 0).f4), .int .i64 ((ab_ l1 0).f5)] rfl (by first | rfl | (simp only [lma_, lmc_, lmn_]; first | done | rfl)) ?_; (with_reducible refine (cr_.calls a0_0 a0_1 a0_2 a0_3 ((ab_ l1 0).f4) ((ab_ l1 0).f5) t104 _ A4.out).mono ?_); rintro e w7 ⟨rfl, hb⟩; refine ⟨_, rfl, ?_⟩; replace BK101 := Aside0.mk (an_ (kz BK101.out) hb); replace HB := Aside0.mk (ac_ (by repeat (first | (with_reducible first | exact HB.out | apply bA_ | apply bN_ | apply bD_ | refine aa_ ?_ GE101.out))) hb); (try clear hb)))
 go_ret
 exact ⟨by first | rfl | (simp [*, ai_, ah_] <;> rfl), by repeat (first | (with_reducible first | exact HB.out | apply bA_ | apply bN_ | apply bD_ | refine aa_ ?_ GE101.out))⟩
def bL_.l0 : Nat → List (S66) → Int → Int → List (S43) → Option (Int)
 | 0, _, _, _, _ => none
 | k + 1, x0, x7, x8, x510 => if x8 < x7 then (if 0 ≤ x8 then (if x8 < (x0.length : Int) then ((cm_.f ((al_ x0 x8).f0) ((al_ x0 x8).f1) ((al_ x0 x8).f2) ((al_ x0 x8).f3) x510).bind fun t102 => (if t102 = true then (some x8) else (bL_.l0 k x0 x7 (wrap64 (x8 + 1)) x510))) else (none)) else (none)) else (some (-1))
def bL_.f (k : Nat) (l0 : List (S66)) (l1c0 : List (S43)) : Option (Int) := bL_.l0 k l0 (l0.length : Int) 0 l1c0
set_option maxHeartbeats 8000000 in
set_option maxRecDepth 100000 in
theorem bL_.calls (k : Nat) (A0 : Option Addr) (c0 : Nat) (l0 : List (S66)) (A1c0 : Option Addr) (l1c0 : List (S43)) (r : Int) (w : World) (hr0 : Kd.C k66 w A0 l0.length l0) (hc0 : l0.length ≤ c0) (hr1c0 : Kd.C k43 w A1c0 l1c0.length l1c0) (h : bL_.f k l0 l1c0 = some r) :
  Calls Tryz.prog 89 #[.slice A0 l0.length c0, .func (.func 75) #[] #[.pointer A1c0]] w fun e w' => e = .returned (.int .i64 r) ∧ Below w.heap.size w w' := by
 have hu66 := Tryz.underlying66
 have HR0 := Aside0.mk hr0
 have HC0 := Aside0.mk hc0
 clear hr0 hc0
 have HR1c0 := Aside0.mk hr1c0
 clear hr1c0
 have HB := Aside0.mk (Below.refl w.heap.size w)
 have H : (bL_.l0 k l0 (l0.length : Int) 0 l1c0) = some r := h
 clear h
 have H' := Aside0.mk H
 clear H
 go_enter Tryz.func89, Tryz.ntmps89
 go_wp2
 (try simp only [Act.put, lsa_, ls0_, ls1_])
 go_loopg [8] k (fun kq v8 w' => ∃ (x8_1 : Int), v8 = .int .i64 x8_1 ∧ Aside0 (bL_.l0 kq l0 (l0.length : Int) x8_1 l1c0 = some r) ∧ Aside0 (kq ≤ k) ∧ Aside0 (Below w.heap.size w w'))
 case atStart => exact ⟨(0), (by first | rfl | (simp; done) | (simp [*]; done)), H', ⟨Nat.le_refl _⟩, ⟨bz HB.out⟩⟩
 case round =>
  clear H'
  obtain ⟨x8_1, rfl, HA, HK1, HB⟩ := hrel
  cases gk with
  | zero => exact absurd HA.out (by simp [bL_.l0])
  | succ k1 =>
   have H := HA.out
   clear HA
   simp only [bL_.l0] at H
   by_cases c3 : x8_1 < (l0.length : Int)
   rotate_left
   ·rw [if_neg c3] at H
    have c3b0 : decide (x8_1 < (l0.length : Int)) = false := decide_eq_false c3
    clear c3
    obtain rfl := Option.some.inj H
    go_wp2
    go_ret
    exact ⟨by first | rfl | (simp [*, ai_, ah_] <;> rfl), bz HB.out⟩
   rw [if_pos c3] at H
   have c3b0 : decide (x8_1 < (l0.length : Int)) = true := decide_eq_true c3
   clear c3
   by_cases c4 : 0 ≤ x8_1
   rotate_left
   ·rw [if_neg c4] at H
    exact absurd H (by simp)
   rw [if_pos c4] at H
   have c4b0 : decide (0 ≤ x8_1) = true := decide_eq_true c4
   clear c4
   by_cases c5 : x8_1 < (l0.length : Int)
   rotate_left
   ·rw [if_neg c5] at H
    exact absurd H (by simp)
   rw [if_pos c5] at H
   have c5b0 : decide (x8_1 < (l0.length : Int)) = true := decide_eq_true c5
   clear c5
   replace H := Option.bind_eq_some_iff.mp H
   obtain ⟨t102, A60, H⟩ := H
   (try dsimp only at H)
   have A6 := Aside0.mk A60
   clear A60
   have HC7 := Aside0.mk H
   clear H
   have p101 : 0 ≤ (x8_1 : Int) := of_decide_eq_true (by assumption)
   have q101 : x8_1 < (l0.length : Int) := of_decide_eq_true (by assumption)
   obtain ⟨ad101, e101, hx101_0, hx101_1, hx101_2, hx101_3⟩ := ck_ HR0.out x8_1 p101 q101
   cases e101
   replace hx101_0 := bu_ HB.out hx101_0
   replace hx101_1 := bu_ HB.out hx101_1
   replace hx101_2 := bu_ HB.out hx101_2
   replace hx101_3 := bu_ HB.out hx101_3
   replace p101 := eq_true p101
   replace q101 := eq_true q101
   go_upto_if 16 with (first | (go_at_call 75; (with_reducible refine (cm_.calls ((al_ l0 x8_1).f0) ((al_ l0 x8_1).f1) ((al_ l0 x8_1).f2) ((al_ l0 x8_1).f3) _ l1c0 t102 _ ?side1 A6.out).mono ?_); (case side1 => exact cz (Kd.bU_ HR1c0.out HB.out)); rintro e w8 ⟨rfl, hb⟩; replace HB := Aside0.mk (ac_ (bz HB.out) hb); (try clear hb)))
   (try simp only [Act.put, lsa_, ls0_, ls1_])
   have H := HC7.out
   clear HC7
   by_cases c9 : t102 = true
   rotate_left
   ·replace c9 := Bool.eq_false_iff.mpr c9
    subst c9
    have H1 : (bL_.l0 k1 l0 (l0.length : Int) (wrap64 (x8_1 + 1)) l1c0) = some r := by rw [if_neg (show ¬ (false = true) by decide)] at H; exact H
    clear H
    have H := H1
    clear H1
    have H' := Aside0.mk H
    clear H
    go_wp2
    go_roundg k1
    case measure => have := HK1.out; omega
    case rel => exact ⟨(wrap64 (x8_1 + 1)), (by first | rfl | (simp; done) | (simp [*]; done)), H', ⟨by have := HK1.out; omega⟩, ⟨bz HB.out⟩⟩
   subst c9
   have H1 : (some x8_1) = some r := by rw [if_pos rfl] at H; exact H
   clear H
   have H := H1
   clear H1
   obtain rfl := Option.some.inj H
   go_wp2
   go_ret
   exact ⟨by first | rfl | (simp [*, ai_, ah_] <;> rfl), bz HB.out⟩
def cE_.f (k : Nat) (l0 : List (S66)) (l1c0 : List (S43)) : Option (Bool) := (bL_.f k l0 l1c0).bind fun t101 => (some (decide (t101 ≥ 0)))
set_option maxHeartbeats 8000000 in
set_option maxRecDepth 100000 in
theorem cE_.calls (k : Nat) (A0 : Option Addr) (c0 : Nat) (l0 : List (S66)) (A1c0 : Option Addr) (l1c0 : List (S43)) (r : Bool) (w : World) (hr0 : Kd.C k66 w A0 l0.length l0) (hc0 : l0.length ≤ c0) (hr1c0 : Kd.C k43 w A1c0 l1c0.length l1c0) (h : cE_.f k l0 l1c0 = some r) :
  Calls Tryz.prog 74 #[.slice A0 l0.length c0, .func (.func 75) #[] #[.pointer A1c0]] w fun e w' => e = .returned (.bool r) ∧ Below w.heap.size w w' := by
 have HR0 := Aside0.mk hr0
 have HC0 := Aside0.mk hc0
 clear hr0 hc0
 have HR1c0 := Aside0.mk hr1c0
 clear hr1c0
 have HB := Aside0.mk (Below.refl w.heap.size w)
 have H : ((bL_.f k l0 l1c0).bind fun t101 => (some (decide (t101 ≥ 0)))) = some r := h
 clear h
 replace H := Option.bind_eq_some_iff.mp H
 obtain ⟨t101, A30, H⟩ := H
 (try dsimp only at H)
 have A3 := Aside0.mk A30
 clear A30
 obtain rfl := Option.some.inj H
 go_enter Tryz.func74, Tryz.ntmps74
 go_wp2_with (first | ((with_reducible refine af_ (f := 89) rfl ?_); refine aJ_ (some 7) rfl rfl Tryz.func89 (by kernel_rfl) rfl #[.slice A0 l0.length c0, .func (.func 75) #[] #[.pointer A1c0]] rfl (by first | rfl | (simp only [lma_, lmc_, lmn_]; first | done | rfl)) ?_; (with_reducible refine (bL_.calls k _ _ l0 _ l1c0 t101 _ ?side1 ?side2 ?side3 A3.out).mono ?_); (case side1 => exact cz HR0.out); (case side2 => exact HC0.out); (case side3 => exact cz HR1c0.out); rintro e w4 ⟨rfl, hb⟩; refine ⟨_, rfl, ?_⟩; replace HB := Aside0.mk (ac_ (bz HB.out) hb); (try clear hb)))
 go_ret
 exact ⟨by first | rfl | (simp [*, ai_, ah_] <;> rfl), bz HB.out⟩
def aG_.j0 : Nat → Bool → ByteArray → ByteArray → Int → ByteArray → Int → Int → Int → Int → List (S66) → Option (Bool)
 | 0, _, _, _, _, _, _, _, _, _, _ => none
 | k + 1, x24, x102000, x102001, x102002, x102003, x102004, x102005, x102006, x102007, x102008 => if x24 = true then (some false) else ((ar_.f x102006 10 20000).bind fun t106 => (if t106 = true then ((ar_.f x102007 10 20000).bind fun t107 => (if t107 = true then (if (x102008.length : Int) > 6 then (some false) else ((cE_.f k x102008 [(⟨x102000, x102001, x102002, (⟨x102003, x102004, x102005⟩ : S40), x102006, x102007, x102008⟩ : S43)]).bind fun t108 => (some (!t108)))) else (some false))) else (some false)))
def aG_.f (k : Nat) (a0_0 : ByteArray) (a0_1 : ByteArray) (a0_2 : Int) (a0_3 : ByteArray) (a0_4 : Int) (a0_5 : Int) (a0_6 : Int) (a0_7 : Int) (l0_8 : List (S66)) : Option (Bool) := (au_.f k a0_0).bind fun t102 => (if t102 = true then ((au_.f k a0_1).bind fun t103 => (if t103 = true then ((ar_.f a0_2 0 999).bind fun t104 => (if t104 = true then ((bh_.f a0_3 a0_4 a0_5).bind fun t105 => (aG_.j0 k (!t105) a0_0 a0_1 a0_2 a0_3 a0_4 a0_5 a0_6 a0_7 l0_8)) else (aG_.j0 k true a0_0 a0_1 a0_2 a0_3 a0_4 a0_5 a0_6 a0_7 l0_8))) else (aG_.j0 k true a0_0 a0_1 a0_2 a0_3 a0_4 a0_5 a0_6 a0_7 l0_8))) else (aG_.j0 k true a0_0 a0_1 a0_2 a0_3 a0_4 a0_5 a0_6 a0_7 l0_8))
set_option maxHeartbeats 8000000 in
set_option maxRecDepth 100000 in
theorem aG_.calls (k : Nat) (a0_0 : ByteArray) (a0_1 : ByteArray) (a0_2 : Int) (a0_3 : ByteArray) (a0_4 : Int) (a0_5 : Int) (a0_6 : Int) (a0_7 : Int) (A0_8 : Option Addr) (c0_8 : Nat) (l0_8 : List (S66)) (r : Bool) (w : World) (hr0_8 : Kd.C k66 w A0_8 l0_8.length l0_8) (hc0_8 : l0_8.length ≤ c0_8) (h : aG_.f k a0_0 a0_1 a0_2 a0_3 a0_4 a0_5 a0_6 a0_7 l0_8 = some r) :
  Calls Tryz.prog 56 #[.agg #[.string a0_0, .string a0_1, .int .i64 a0_2, .string a0_3, .int .i64 a0_4, .int .i64 a0_5, .int .i64 a0_6, .int .i64 a0_7, .slice A0_8 l0_8.length c0_8]] w fun e w' => e = .returned (.bool r) ∧ Below w.heap.size w w' := by
 have hu43 := Tryz.underlying43
 have hu40 := Tryz.underlying40
 have HR0_8 := Aside0.mk hr0_8
 have HC0_8 := Aside0.mk hc0_8
 clear hr0_8 hc0_8
 have HB := Aside0.mk (Below.refl w.heap.size w)
 have H : ((au_.f k a0_0).bind fun t102 => (if t102 = true then ((au_.f k a0_1).bind fun t103 => (if t103 = true then ((ar_.f a0_2 0 999).bind fun t104 => (if t104 = true then ((bh_.f a0_3 a0_4 a0_5).bind fun t105 => (aG_.j0 k (!t105) a0_0 a0_1 a0_2 a0_3 a0_4 a0_5 a0_6 a0_7 l0_8)) else (aG_.j0 k true a0_0 a0_1 a0_2 a0_3 a0_4 a0_5 a0_6 a0_7 l0_8))) else (aG_.j0 k true a0_0 a0_1 a0_2 a0_3 a0_4 a0_5 a0_6 a0_7 l0_8))) else (aG_.j0 k true a0_0 a0_1 a0_2 a0_3 a0_4 a0_5 a0_6 a0_7 l0_8))) = some r := h
 clear h
 have HC2 := Aside0.mk H
 clear H
 go_enter Tryz.func56, Tryz.ntmps56
 go_upto_region 1 with (first | ((with_reducible refine aI_ (N := 1) rfl ?_); (try (refine cH_ (by rfl) ?_; dsimp only)); refine aR_ ?hg (N := 1) ?hd (cs := #[.string a0_0, .string a0_1, .int .i64 a0_2, .string a0_3, .int .i64 a0_4, .int .i64 a0_5, .int .i64 a0_6, .int .i64 a0_7, .slice A0_8 l0_8.length c0_8]) (t := 43) ?hr ?_; (case hd => rfl); (case hg => rfl); (case hr => (go_simp; try rfl)); intro gb101 hg w3 hbox hb; have BK101 := Aside0.mk (hbox); have GW101 := Aside0.mk ((by rw [hg]; exact (ad_ (bz HB.out)) : w.heap.size ≤ gb101)); have GE101 := Aside0.mk ((by rw [hg]; exact (ad_ (bz HB.out)) : w.heap.size ≤ gb101)); replace HB := Aside0.mk (ac_ (bz HB.out) hb); clear hb hbox hg))
 (try simp only [Act.put, lsa_, ls0_, ls1_])
 go_cut [24] (fun v24 wc => ∃ (kq : Nat) (x24_1 : Bool), v24 = .bool x24_1 ∧ Aside0 (aG_.j0 kq x24_1 a0_0 a0_1 a0_2 a0_3 a0_4 a0_5 a0_6 a0_7 l0_8 = some r) ∧ Aside0 (kq ≤ k) ∧ Aside0 (wc.heap[gb101]? = some (.cells #[.string a0_0, .string a0_1, .int .i64 a0_2, .string a0_3, .int .i64 a0_4, .int .i64 a0_5, .int .i64 a0_6, .int .i64 a0_7, (.slice A0_8 l0_8.length c0_8)] 43 (0, 0))) ∧ Aside0 (Below w.heap.size w wc))
 case first =>
  have H := HC2.out
  clear HC2
  replace H := Option.bind_eq_some_iff.mp H
  obtain ⟨t102, A40, H⟩ := H
  (try dsimp only at H)
  have A4 := Aside0.mk A40
  clear A40
  by_cases c5 : t102 = true
  rotate_left
  ·replace c5 := Bool.eq_false_iff.mpr c5
   subst c5
   have H1 : (aG_.j0 k true a0_0 a0_1 a0_2 a0_3 a0_4 a0_5 a0_6 a0_7 l0_8) = some r := by rw [if_neg (show ¬ (false = true) by decide)] at H; exact H
   clear H
   have H := H1
   clear H1
   have H' := Aside0.mk H
   clear H
   obtain ⟨hcz15_0, hcz15_1, hcz15_2, hcz15_3, hcz15_4, hcz15_5, hcz15_6, hcz15_7, hcz15_8⟩ := cz9_ BK101.out
   obtain ⟨hfz15_0, hfz15_1, hfz15_2, hfz15_3, hfz15_4, hfz15_5, hfz15_6, hfz15_7, hfz15_8⟩ := fz9_ BK101.out
   go_wp2_with (first | ((with_reducible refine af_ (f := 47) rfl ?_); refine aJ_ (some 5) rfl rfl Tryz.func47 (by kernel_rfl) rfl #[.string a0_0] rfl (by first | rfl | (simp only [lma_, lmc_, lmn_]; first | done | rfl)) ?_; (with_reducible refine (au_.calls k a0_0 false _ A4.out).mono ?_); rintro e w' ⟨rfl, ⟨nd, rfl⟩⟩; refine ⟨_, rfl, ?_⟩))
   go_meet
   case rel => exact ⟨_, (true), (by first | rfl | (simp; done) | (simp [*]; done)), H', ⟨by first | omega | exact Nat.le_refl _⟩, ⟨by (with_reducible repeat (first | refine cd_ ?_ _ | refine bH_ ?_ | refine bE_ ?_ _)); exact BK101.out⟩, ⟨by repeat (first | (with_reducible first | exact HB.out | apply bA_ | apply bN_ | apply bD_ | refine aa_ ?_ GE101.out))⟩⟩
  subst c5
  have H1 : ((au_.f k a0_1).bind fun t103 => (if t103 = true then ((ar_.f a0_2 0 999).bind fun t104 => (if t104 = true then ((bh_.f a0_3 a0_4 a0_5).bind fun t105 => (aG_.j0 k (!t105) a0_0 a0_1 a0_2 a0_3 a0_4 a0_5 a0_6 a0_7 l0_8)) else (aG_.j0 k true a0_0 a0_1 a0_2 a0_3 a0_4 a0_5 a0_6 a0_7 l0_8))) else (aG_.j0 k true a0_0 a0_1 a0_2 a0_3 a0_4 a0_5 a0_6 a0_7 l0_8))) = some r := by rw [if_pos rfl] at H; exact H
  clear H
  have H := H1
  clear H1
  replace H := Option.bind_eq_some_iff.mp H
  obtain ⟨t103, A60, H⟩ := H
  (try dsimp only at H)
  have A6 := Aside0.mk A60
  clear A60
  by_cases c7 : t103 = true
  rotate_left
  ·replace c7 := Bool.eq_false_iff.mpr c7
   subst c7
   have H1 : (aG_.j0 k true a0_0 a0_1 a0_2 a0_3 a0_4 a0_5 a0_6 a0_7 l0_8) = some r := by rw [if_neg (show ¬ (false = true) by decide)] at H; exact H
   clear H
   have H := H1
   clear H1
   have H' := Aside0.mk H
   clear H
   obtain ⟨hcz14_0, hcz14_1, hcz14_2, hcz14_3, hcz14_4, hcz14_5, hcz14_6, hcz14_7, hcz14_8⟩ := cz9_ BK101.out
   obtain ⟨hfz14_0, hfz14_1, hfz14_2, hfz14_3, hfz14_4, hfz14_5, hfz14_6, hfz14_7, hfz14_8⟩ := fz9_ BK101.out
   go_wp2_with (first | ((with_reducible refine af_ (f := 47) rfl ?_); refine aJ_ (some 5) rfl rfl Tryz.func47 (by kernel_rfl) rfl #[.string a0_0] rfl (by first | rfl | (simp only [lma_, lmc_, lmn_]; first | done | rfl)) ?_; (with_reducible refine (au_.calls k a0_0 true _ A4.out).mono ?_); rintro e w' ⟨rfl, ⟨nd, rfl⟩⟩; refine ⟨_, rfl, ?_⟩) | (go_at_call 47; (with_reducible refine (au_.calls k a0_1 false _ A6.out).mono ?_); rintro e w' ⟨rfl, ⟨nd, rfl⟩⟩))
   go_meet
   case rel => exact ⟨_, (true), (by first | rfl | (simp; done) | (simp [*]; done)), H', ⟨by first | omega | exact Nat.le_refl _⟩, ⟨by (with_reducible repeat (first | refine cd_ ?_ _ | refine bH_ ?_ | refine bE_ ?_ _)); exact BK101.out⟩, ⟨by repeat (first | (with_reducible first | exact HB.out | apply bA_ | apply bN_ | apply bD_ | refine aa_ ?_ GE101.out))⟩⟩
  subst c7
  have H1 : ((ar_.f a0_2 0 999).bind fun t104 => (if t104 = true then ((bh_.f a0_3 a0_4 a0_5).bind fun t105 => (aG_.j0 k (!t105) a0_0 a0_1 a0_2 a0_3 a0_4 a0_5 a0_6 a0_7 l0_8)) else (aG_.j0 k true a0_0 a0_1 a0_2 a0_3 a0_4 a0_5 a0_6 a0_7 l0_8))) = some r := by rw [if_pos rfl] at H; exact H
  clear H
  have H := H1
  clear H1
  replace H := Option.bind_eq_some_iff.mp H
  obtain ⟨t104, A80, H⟩ := H
  (try dsimp only at H)
  have A8 := Aside0.mk A80
  clear A80
  by_cases c9 : t104 = true
  rotate_left
  ·replace c9 := Bool.eq_false_iff.mpr c9
   subst c9
   have H1 : (aG_.j0 k true a0_0 a0_1 a0_2 a0_3 a0_4 a0_5 a0_6 a0_7 l0_8) = some r := by rw [if_neg (show ¬ (false = true) by decide)] at H; exact H
   clear H
   have H := H1
   clear H1
   have H' := Aside0.mk H
   clear H
   obtain ⟨hcz13_0, hcz13_1, hcz13_2, hcz13_3, hcz13_4, hcz13_5, hcz13_6, hcz13_7, hcz13_8⟩ := cz9_ BK101.out
   obtain ⟨hfz13_0, hfz13_1, hfz13_2, hfz13_3, hfz13_4, hfz13_5, hfz13_6, hfz13_7, hfz13_8⟩ := fz9_ BK101.out
   go_wp2_with (first | ((with_reducible refine af_ (f := 47) rfl ?_); refine aJ_ (some 5) rfl rfl Tryz.func47 (by kernel_rfl) rfl #[.string a0_0] rfl (by first | rfl | (simp only [lma_, lmc_, lmn_]; first | done | rfl)) ?_; (with_reducible refine (au_.calls k a0_0 true _ A4.out).mono ?_); rintro e w' ⟨rfl, ⟨nd, rfl⟩⟩; refine ⟨_, rfl, ?_⟩) | (go_at_call 47; (with_reducible refine (au_.calls k a0_1 true _ A6.out).mono ?_); rintro e w' ⟨rfl, ⟨nd, rfl⟩⟩) | (go_at_call 72; (with_reducible refine (ar_.calls a0_2 0 999 false _ A8.out).mono ?_); rintro e w' ⟨rfl, ⟨nd, rfl⟩⟩))
   go_meet
   case rel => exact ⟨_, (true), (by first | rfl | (simp; done) | (simp [*]; done)), H', ⟨by first | omega | exact Nat.le_refl _⟩, ⟨by (with_reducible repeat (first | refine cd_ ?_ _ | refine bH_ ?_ | refine bE_ ?_ _)); exact BK101.out⟩, ⟨by repeat (first | (with_reducible first | exact HB.out | apply bA_ | apply bN_ | apply bD_ | refine aa_ ?_ GE101.out))⟩⟩
  subst c9
  have H1 : ((bh_.f a0_3 a0_4 a0_5).bind fun t105 => (aG_.j0 k (!t105) a0_0 a0_1 a0_2 a0_3 a0_4 a0_5 a0_6 a0_7 l0_8)) = some r := by rw [if_pos rfl] at H; exact H
  clear H
  have H := H1
  clear H1
  replace H := Option.bind_eq_some_iff.mp H
  obtain ⟨t105, A100, H⟩ := H
  (try dsimp only at H)
  have A10 := Aside0.mk A100
  clear A100
  have H' := Aside0.mk H
  clear H
  obtain ⟨hcz11_0, hcz11_1, hcz11_2, hcz11_3, hcz11_4, hcz11_5, hcz11_6, hcz11_7, hcz11_8⟩ := cz9_ BK101.out
  obtain ⟨hfz11_0, hfz11_1, hfz11_2, hfz11_3, hfz11_4, hfz11_5, hfz11_6, hfz11_7, hfz11_8⟩ := fz9_ BK101.out
  go_wp2_with (first | ((with_reducible refine af_ (f := 47) rfl ?_); refine aJ_ (some 5) rfl rfl Tryz.func47 (by kernel_rfl) rfl #[.string a0_0] rfl (by first | rfl | (simp only [lma_, lmc_, lmn_]; first | done | rfl)) ?_; (with_reducible refine (au_.calls k a0_0 true _ A4.out).mono ?_); rintro e w' ⟨rfl, ⟨nd, rfl⟩⟩; refine ⟨_, rfl, ?_⟩) | (go_at_call 47; (with_reducible refine (au_.calls k a0_1 true _ A6.out).mono ?_); rintro e w' ⟨rfl, ⟨nd, rfl⟩⟩) | (go_at_call 72; (with_reducible refine (ar_.calls a0_2 0 999 true _ A8.out).mono ?_); rintro e w' ⟨rfl, ⟨nd, rfl⟩⟩) | (go_at_call 53; (with_reducible refine (bh_.calls a0_3 a0_4 a0_5 t105 _ A10.out).mono ?_); rintro e w12 ⟨rfl, hb⟩; replace BK101 := Aside0.mk (an_ (kz BK101.out) hb); replace HB := Aside0.mk (ac_ (by repeat (first | (with_reducible first | exact HB.out | apply bA_ | apply bN_ | apply bD_ | refine aa_ ?_ GE101.out))) hb); (try clear hb)))
  go_meet
  case rel => exact ⟨_, (!t105), (by first | rfl | (simp; done) | (simp [*]; done)), H', ⟨by first | omega | exact Nat.le_refl _⟩, ⟨by (with_reducible repeat (first | refine cd_ ?_ _ | refine bH_ ?_ | refine bE_ ?_ _)); exact BK101.out⟩, ⟨by repeat (first | (with_reducible first | exact HB.out | apply bA_ | apply bN_ | apply bD_ | refine aa_ ?_ GE101.out))⟩⟩
 case rest =>
  clear HC2
  obtain ⟨kq, x24_1, rfl, HA, HJ1, BK101, HB⟩ := hcut
  cases kq with
  | zero => exact absurd HA.out (by simp [aG_.j0])
  | succ kj1 =>
   have H := HA.out
   clear HA
   simp only [aG_.j0] at H
   by_cases c16 : x24_1 = true
   rotate_left
   ·replace c16 := Bool.eq_false_iff.mpr c16
    subst c16
    have H1 : ((ar_.f a0_6 10 20000).bind fun t106 => (if t106 = true then ((ar_.f a0_7 10 20000).bind fun t107 => (if t107 = true then (if (l0_8.length : Int) > 6 then (some false) else ((cE_.f kj1 l0_8 [(⟨a0_0, a0_1, a0_2, (⟨a0_3, a0_4, a0_5⟩ : S40), a0_6, a0_7, l0_8⟩ : S43)]).bind fun t108 => (some (!t108)))) else (some false))) else (some false))) = some r := by rw [if_neg (show ¬ (false = true) by decide)] at H; exact H
    clear H
    have H := H1
    clear H1
    replace H := Option.bind_eq_some_iff.mp H
    obtain ⟨t106, A170, H⟩ := H
    (try dsimp only at H)
    have A17 := Aside0.mk A170
    clear A170
    by_cases c18 : t106 = true
    rotate_left
    ·replace c18 := Bool.eq_false_iff.mpr c18
     subst c18
     have H1 : (some false) = some r := by rw [if_neg (show ¬ (false = true) by decide)] at H; exact H
     clear H
     have H := H1
     clear H1
     obtain rfl := Option.some.inj H
     obtain ⟨hcz30_0, hcz30_1, hcz30_2, hcz30_3, hcz30_4, hcz30_5, hcz30_6, hcz30_7, hcz30_8⟩ := cz9_ BK101.out
     obtain ⟨hfz30_0, hfz30_1, hfz30_2, hfz30_3, hfz30_4, hfz30_5, hfz30_6, hfz30_7, hfz30_8⟩ := fz9_ BK101.out
     go_wp2_with (first | ((with_reducible refine af_ (f := 72) rfl ?_); refine aJ_ (some 27) rfl rfl Tryz.func72 (by kernel_rfl) rfl #[.int .i64 a0_6, .int .i64 10, .int .i64 20000] rfl (by first | rfl | (simp only [lma_, lmc_, lmn_]; first | done | rfl)) ?_; (with_reducible refine (ar_.calls a0_6 10 20000 false _ A17.out).mono ?_); rintro e w' ⟨rfl, ⟨nd, rfl⟩⟩; refine ⟨_, rfl, ?_⟩))
     go_ret
     exact ⟨by first | rfl | (simp [*, ai_, ah_] <;> rfl), by repeat (first | (with_reducible first | exact HB.out | apply bA_ | apply bN_ | apply bD_ | refine aa_ ?_ GE101.out))⟩
    subst c18
    have H1 : ((ar_.f a0_7 10 20000).bind fun t107 => (if t107 = true then (if (l0_8.length : Int) > 6 then (some false) else ((cE_.f kj1 l0_8 [(⟨a0_0, a0_1, a0_2, (⟨a0_3, a0_4, a0_5⟩ : S40), a0_6, a0_7, l0_8⟩ : S43)]).bind fun t108 => (some (!t108)))) else (some false))) = some r := by rw [if_pos rfl] at H; exact H
    clear H
    have H := H1
    clear H1
    replace H := Option.bind_eq_some_iff.mp H
    obtain ⟨t107, A190, H⟩ := H
    (try dsimp only at H)
    have A19 := Aside0.mk A190
    clear A190
    by_cases c20 : t107 = true
    rotate_left
    ·replace c20 := Bool.eq_false_iff.mpr c20
     subst c20
     have H1 : (some false) = some r := by rw [if_neg (show ¬ (false = true) by decide)] at H; exact H
     clear H
     have H := H1
     clear H1
     obtain rfl := Option.some.inj H
     obtain ⟨hcz29_0, hcz29_1, hcz29_2, hcz29_3, hcz29_4, hcz29_5, hcz29_6, hcz29_7, hcz29_8⟩ := cz9_ BK101.out
     obtain ⟨hfz29_0, hfz29_1, hfz29_2, hfz29_3, hfz29_4, hfz29_5, hfz29_6, hfz29_7, hfz29_8⟩ := fz9_ BK101.out
     go_wp2_with (first | ((with_reducible refine af_ (f := 72) rfl ?_); refine aJ_ (some 27) rfl rfl Tryz.func72 (by kernel_rfl) rfl #[.int .i64 a0_6, .int .i64 10, .int .i64 20000] rfl (by first | rfl | (simp only [lma_, lmc_, lmn_]; first | done | rfl)) ?_; (with_reducible refine (ar_.calls a0_6 10 20000 true _ A17.out).mono ?_); rintro e w' ⟨rfl, ⟨nd, rfl⟩⟩; refine ⟨_, rfl, ?_⟩) | (go_at_call 72; (with_reducible refine (ar_.calls a0_7 10 20000 false _ A19.out).mono ?_); rintro e w' ⟨rfl, ⟨nd, rfl⟩⟩))
     go_ret
     exact ⟨by first | rfl | (simp [*, ai_, ah_] <;> rfl), by repeat (first | (with_reducible first | exact HB.out | apply bA_ | apply bN_ | apply bD_ | refine aa_ ?_ GE101.out))⟩
    subst c20
    have H1 : (if (l0_8.length : Int) > 6 then (some false) else ((cE_.f kj1 l0_8 [(⟨a0_0, a0_1, a0_2, (⟨a0_3, a0_4, a0_5⟩ : S40), a0_6, a0_7, l0_8⟩ : S43)]).bind fun t108 => (some (!t108)))) = some r := by rw [if_pos rfl] at H; exact H
    clear H
    have H := H1
    clear H1
    have HC21 := Aside0.mk H
    clear H
    obtain ⟨hcz22_0, hcz22_1, hcz22_2, hcz22_3, hcz22_4, hcz22_5, hcz22_6, hcz22_7, hcz22_8⟩ := cz9_ BK101.out
    obtain ⟨hfz22_0, hfz22_1, hfz22_2, hfz22_3, hfz22_4, hfz22_5, hfz22_6, hfz22_7, hfz22_8⟩ := fz9_ BK101.out
    go_upto_if 40 with (first | ((with_reducible refine af_ (f := 72) rfl ?_); refine aJ_ (some 27) rfl rfl Tryz.func72 (by kernel_rfl) rfl #[.int .i64 a0_6, .int .i64 10, .int .i64 20000] rfl (by first | rfl | (simp only [lma_, lmc_, lmn_]; first | done | rfl)) ?_; (with_reducible refine (ar_.calls a0_6 10 20000 true _ A17.out).mono ?_); rintro e w' ⟨rfl, ⟨nd, rfl⟩⟩; refine ⟨_, rfl, ?_⟩; (try (rw [bm_ wc]; generalize hq_ : World.drewN wc _ = wc; replace BK101 := Aside0.mk (rqB hq_ BK101.out); replace HB := Aside0.mk (rqH hq_ HB.out); clear hq_)); obtain ⟨hcz23_0, hcz23_1, hcz23_2, hcz23_3, hcz23_4, hcz23_5, hcz23_6, hcz23_7, hcz23_8⟩ := cz9_ BK101.out; obtain ⟨hfz23_0, hfz23_1, hfz23_2, hfz23_3, hfz23_4, hfz23_5, hfz23_6, hfz23_7, hfz23_8⟩ := fz9_ BK101.out) | (go_at_call 72; (with_reducible refine (ar_.calls a0_7 10 20000 true _ A19.out).mono ?_); rintro e w' ⟨rfl, ⟨nd, rfl⟩⟩; (try (rw [bm_ wc]; generalize hq_ : World.drewN wc _ = wc; replace BK101 := Aside0.mk (rqB hq_ BK101.out); replace HB := Aside0.mk (rqH hq_ HB.out); clear hq_)); obtain ⟨hcz24_0, hcz24_1, hcz24_2, hcz24_3, hcz24_4, hcz24_5, hcz24_6, hcz24_7, hcz24_8⟩ := cz9_ BK101.out; obtain ⟨hfz24_0, hfz24_1, hfz24_2, hfz24_3, hfz24_4, hfz24_5, hfz24_6, hfz24_7, hfz24_8⟩ := fz9_ BK101.out))
    (try simp only [Act.put, lsa_, ls0_, ls1_])
    have H := HC21.out
    clear HC21
    by_cases c25 : (l0_8.length : Int) > 6
    rotate_left
    ·rw [if_neg c25] at H
     have c25b0 : decide (6 < (l0_8.length : Int)) = false := decide_eq_false c25
     have c25b1 : decide (6 < l0_8.length) = false := decide_eq_false (by omega)
     clear c25
     (first | rw [c25b0] | (simp only [i64_w, i32_w]; rw [c25b0]) | (simp only [c25b1, Bool.not_true, Bool.not_false]) | (simp only [c25b0, Bool.not_true, Bool.not_false]) | skip)
     replace H := Option.bind_eq_some_iff.mp H
     obtain ⟨t108, A260, H⟩ := H
     (try dsimp only at H)
     have A26 := Aside0.mk A260
     clear A260
     obtain rfl := Option.some.inj H
     obtain ⟨hcz27_0, hcz27_1, hcz27_2, hcz27_3, hcz27_4, hcz27_5, hcz27_6, hcz27_7, hcz27_8⟩ := cz9_ BK101.out
     obtain ⟨hfz27_0, hfz27_1, hfz27_2, hfz27_3, hfz27_4, hfz27_5, hfz27_6, hfz27_7, hfz27_8⟩ := fz9_ BK101.out
     go_wp2_with (first | ((with_reducible refine af_ (f := 74) rfl ?_); refine aJ_ (some 44) rfl rfl Tryz.func74 (by kernel_rfl) rfl #[.slice A0_8 l0_8.length c0_8, .func (.func 75) #[] #[.pointer (some (Addr.add ⟨gb101, 0, none⟩ 0))]] rfl (by first | rfl | (simp only [lma_, lmc_, lmn_]; first | done | rfl)) ?_; (with_reducible refine (cE_.calls kj1 _ _ l0_8 _ [(⟨a0_0, a0_1, a0_2, (⟨a0_3, a0_4, a0_5⟩ : S40), a0_6, a0_7, l0_8⟩ : S43)] t108 _ ?side1 ?side2 ?side3 A26.out).mono ?_); (case side1 => repeat (first | exact (Kd.bU_ HR0_8.out (by repeat (first | (with_reducible first | exact HB.out | apply bA_ | apply bN_ | apply bD_ | refine aa_ ?_ GE101.out)))) | (with_reducible first | refine Kd.C_alloc ?_ _ | refine Kd.C_drewN ?_ _ | refine Kd.C_drew ?_))); (case side2 => exact HC0_8.out); (case side3 => exact (RPW.C_blk (cs := [.string a0_0, .string a0_1, .int .i64 a0_2, .string a0_3, .int .i64 a0_4, .int .i64 a0_5, .int .i64 a0_6, .int .i64 a0_7, .slice A0_8 l0_8.length c0_8]) (t := 43) (g := gb101) (kz BK101.out) (k43_mk _ (⟨a0_0, a0_1, a0_2, (⟨a0_3, a0_4, a0_5⟩ : S40), a0_6, a0_7, l0_8⟩ : S43) (by exact HC0_8.out) (by repeat (first | exact (Kd.bU_ HR0_8.out (by repeat (first | (with_reducible first | exact HB.out | apply bA_ | apply bN_ | apply bD_ | refine aa_ ?_ GE101.out)))) | (with_reducible first | refine Kd.C_alloc ?_ _ | refine Kd.C_drewN ?_ _ | refine Kd.C_drew ?_)))))); rintro e w28 ⟨rfl, hb⟩; refine ⟨_, rfl, ?_⟩; replace BK101 := Aside0.mk (an_ (kz BK101.out) hb); replace HB := Aside0.mk (ac_ (by repeat (first | (with_reducible first | exact HB.out | apply bA_ | apply bN_ | apply bD_ | refine aa_ ?_ GE101.out))) hb); (try clear hb)))
     go_ret
     exact ⟨by first | rfl | (simp [*, ai_, ah_] <;> rfl), by repeat (first | (with_reducible first | exact HB.out | apply bA_ | apply bN_ | apply bD_ | refine aa_ ?_ GE101.out))⟩
    rw [if_pos c25] at H
    have c25b0 : decide (6 < (l0_8.length : Int)) = true := decide_eq_true c25
    have c25b1 : decide (6 < l0_8.length) = true := decide_eq_true (by omega)
    clear c25
    (first | rw [c25b0] | (simp only [i64_w, i32_w]; rw [c25b0]) | (simp only [c25b1, Bool.not_true, Bool.not_false]) | (simp only [c25b0, Bool.not_true, Bool.not_false]) | skip)
    obtain rfl := Option.some.inj H
    go_wp2
    go_ret
    exact ⟨by first | rfl | (simp [*, ai_, ah_] <;> rfl), by repeat (first | (with_reducible first | exact HB.out | apply bA_ | apply bN_ | apply bD_ | refine aa_ ?_ GE101.out))⟩
   subst c16
   have H1 : (some false) = some r := by rw [if_pos rfl] at H; exact H
   clear H
   have H := H1
   clear H1
   obtain rfl := Option.some.inj H
   go_wp2
   go_ret
   exact ⟨by first | rfl | (simp [*, ai_, ah_] <;> rfl), by repeat (first | (with_reducible first | exact HB.out | apply bA_ | apply bN_ | apply bD_ | refine aa_ ?_ GE101.out))⟩
def bo_.f (a0_0 : ByteArray) (a0_1 : Int) (a0_2 : Int) : Option (ByteArray) := (bh_.f a0_0 a0_1 a0_2).bind fun t102 => (if t102 = true then (if a0_0.size + 1 ≤ 9223372036854775807 then ((ba_.f a0_1).bind fun t103 => (if a0_0.size + 1 + t103.size ≤ 9223372036854775807 then (if a0_0.size + 1 + t103.size + 1 ≤ 9223372036854775807 then ((ba_.f a0_2).bind fun t104 => (if a0_0.size + 1 + t103.size + 1 + t104.size ≤ 9223372036854775807 then (some ((((a0_0 ++ (⟨#[32]⟩ : ByteArray)) ++ t103) ++ (⟨#[32]⟩ : ByteArray)) ++ t104)) else (none))) else (none)) else (none))) else (none)) else (some (⟨#[]⟩ : ByteArray)))
def bo_.T3 : Bool × List (List Nat × List Nat) := (true, [([], []), ([0], [0]), ([1], [1]), ([], []), ([3], [3]), ([4], [4]), ([2, 5], [2, 5]), ([6], [6]), ([], []), ([8], [8]), ([9, 5], [9]), ([7, 10], [7, 10]), ([11, 10, 0, 1, 2, 3, 4, 5, 6, 7, 8, 9, 10, 11], [11])])
def bo_.B3 : List Nat := [0, 1, 3, 0, 8, 24, 63, 127, 0, 256, 824, 2047, 4095]
theorem bo_.tab3 : rtab .any (opsOf Tryz.f57 3) = bo_.T3 := by kernel_rfl
theorem bo_.bits3 : cC_ bo_.T3.2 bo_.B3 = true := by kernel_rfl
set_option maxHeartbeats 8000000 in
set_option maxRecDepth 100000 in
theorem bo_.calls (a0_0 : ByteArray) (a0_1 : Int) (a0_2 : Int) (r : ByteArray) (w : World) (hTab_ : Tab_ w) (h : bo_.f a0_0 a0_1 a0_2 = some r) :
  Calls Tryz.prog 57 #[.agg #[.string a0_0, .int .i64 a0_1, .int .i64 a0_2]] w fun e w' => e = .returned (.string r) ∧ Below w.heap.size w w' := by
 have hu40 := Tryz.underlying40
 have HTab_ := Aside0.mk hTab_
 clear hTab_
 have HB := Aside0.mk (Below.refl w.heap.size w)
 have H : ((bh_.f a0_0 a0_1 a0_2).bind fun t102 => (if t102 = true then (if a0_0.size + 1 ≤ 9223372036854775807 then ((ba_.f a0_1).bind fun t103 => (if a0_0.size + 1 + t103.size ≤ 9223372036854775807 then (if a0_0.size + 1 + t103.size + 1 ≤ 9223372036854775807 then ((ba_.f a0_2).bind fun t104 => (if a0_0.size + 1 + t103.size + 1 + t104.size ≤ 9223372036854775807 then (some ((((a0_0 ++ (⟨#[32]⟩ : ByteArray)) ++ t103) ++ (⟨#[32]⟩ : ByteArray)) ++ t104)) else (none))) else (none)) else (none))) else (none)) else (some (⟨#[]⟩ : ByteArray)))) = some r := h
 clear h
 replace H := Option.bind_eq_some_iff.mp H
 obtain ⟨t102, A20, H⟩ := H
 (try dsimp only at H)
 have A2 := Aside0.mk A20
 clear A20
 have HC3 := Aside0.mk H
 clear H
 go_enter Tryz.func57, Tryz.ntmps57
 go_upto_if 5 with (first | ((with_reducible refine aI_ (N := 1) rfl ?_); refine aR_ ?hg (N := 1) ?hd (cs := #[.string a0_0, .int .i64 a0_1, .int .i64 a0_2]) (t := 40) ?hr ?_; (case hd => rfl); (case hg => rfl); (case hr => (go_simp; try rfl)); intro gb101 hg w4 hbox hb; have BK101 := Aside0.mk (hbox); have GW101 := Aside0.mk ((by rw [hg]; exact (ad_ (bz HB.out)) : w.heap.size ≤ gb101)); have GE101 := Aside0.mk ((by rw [hg]; exact (ad_ (bz HB.out)) : w.heap.size ≤ gb101)); replace HB := Aside0.mk (ac_ (bz HB.out) hb); clear hb hbox hg; obtain ⟨hcz5_0, hcz5_1, hcz5_2⟩ := cz3_ BK101.out; obtain ⟨hfz5_0, hfz5_1, hfz5_2⟩ := fz3_ BK101.out) | ((with_reducible refine af_ (f := 53) rfl ?_); refine aJ_ (some 4) rfl rfl Tryz.func53 (by kernel_rfl) rfl #[.agg #[.string a0_0, .int .i64 a0_1, .int .i64 a0_2]] rfl (by first | rfl | (simp only [lma_, lmc_, lmn_]; first | done | rfl)) ?_; (with_reducible refine (bh_.calls a0_0 a0_1 a0_2 t102 _ A2.out).mono ?_); rintro e w6 ⟨rfl, hb⟩; refine ⟨_, rfl, ?_⟩; replace BK101 := Aside0.mk (an_ (kz BK101.out) hb); replace HB := Aside0.mk (ac_ (by repeat (first | (with_reducible first | exact HB.out | apply bA_ | apply bN_ | apply bD_ | refine aa_ ?_ GE101.out))) hb); (try clear hb)))
 (try simp only [Act.put, lsa_, ls0_, ls1_])
 have H := HC3.out
 clear HC3
 by_cases c7 : t102 = true
 rotate_left
 ·replace c7 := Bool.eq_false_iff.mpr c7
  subst c7
  have H1 : (some (⟨#[]⟩ : ByteArray)) = some r := by rw [if_neg (show ¬ (false = true) by decide)] at H; exact H
  clear H
  have H := H1
  clear H1
  obtain rfl := Option.some.inj H
  go_wp2
  go_ret
  exact ⟨by first | rfl | (simp [*, ai_, ah_] <;> rfl), by repeat (first | (with_reducible first | exact HB.out | apply bA_ | apply bN_ | apply bD_ | refine aa_ ?_ GE101.out))⟩
 subst c7
 have H1 : (if a0_0.size + 1 ≤ 9223372036854775807 then ((ba_.f a0_1).bind fun t103 => (if a0_0.size + 1 + t103.size ≤ 9223372036854775807 then (if a0_0.size + 1 + t103.size + 1 ≤ 9223372036854775807 then ((ba_.f a0_2).bind fun t104 => (if a0_0.size + 1 + t103.size + 1 + t104.size ≤ 9223372036854775807 then (some ((((a0_0 ++ (⟨#[32]⟩ : ByteArray)) ++ t103) ++ (⟨#[32]⟩ : ByteArray)) ++ t104)) else (none))) else (none)) else (none))) else (none)) = some r := by rw [if_pos rfl] at H; exact H
 clear H
 have H := H1
 clear H1
 by_cases c8 : a0_0.size + 1 ≤ 9223372036854775807
 rotate_left
 ·rw [if_neg c8] at H
  exact absurd H (by simp)
 rw [if_pos c8] at H
 have c8b0 := eq_true c8
 have c8b1 : decide (a0_0.size + 1 ≤ 9223372036854775807) = true := decide_eq_true c8
 try have c8b2 : (9223372036854775807 < a0_0.size + 1) = False := eq_false (Nat.not_lt.2 c8)
 replace H := Option.bind_eq_some_iff.mp H
 obtain ⟨t103, A90, H⟩ := H
 (try dsimp only at H)
 have A9 := Aside0.mk A90
 clear A90
 by_cases c10 : a0_0.size + 1 + t103.size ≤ 9223372036854775807
 rotate_left
 ·rw [if_neg c10] at H
  exact absurd H (by simp)
 rw [if_pos c10] at H
 have c10b0 := eq_true c10
 have c10b1 : decide (a0_0.size + 1 + t103.size ≤ 9223372036854775807) = true := decide_eq_true c10
 try have c10b2 : (9223372036854775807 < a0_0.size + 1 + t103.size) = False := eq_false (Nat.not_lt.2 c10)
 by_cases c11 : a0_0.size + 1 + t103.size + 1 ≤ 9223372036854775807
 rotate_left
 ·rw [if_neg c11] at H
  exact absurd H (by simp)
 rw [if_pos c11] at H
 have c11b0 := eq_true c11
 have c11b1 : decide (a0_0.size + 1 + t103.size + 1 ≤ 9223372036854775807) = true := decide_eq_true c11
 try have c11b2 : (9223372036854775807 < a0_0.size + 1 + t103.size + 1) = False := eq_false (Nat.not_lt.2 c11)
 replace H := Option.bind_eq_some_iff.mp H
 obtain ⟨t104, A120, H⟩ := H
 (try dsimp only at H)
 have A12 := Aside0.mk A120
 clear A120
 by_cases c13 : a0_0.size + 1 + t103.size + 1 + t104.size ≤ 9223372036854775807
 rotate_left
 ·rw [if_neg c13] at H
  exact absurd H (by simp)
 rw [if_pos c13] at H
 have c13b0 := eq_true c13
 have c13b1 : decide (a0_0.size + 1 + t103.size + 1 + t104.size ≤ 9223372036854775807) = true := decide_eq_true c13
 try have c13b2 : (9223372036854775807 < a0_0.size + 1 + t103.size + 1 + t104.size) = False := eq_false (Nat.not_lt.2 c13)
 obtain rfl := Option.some.inj H
 try go_wp2
 (try (rw [bm_ w6]; generalize hq_ : World.drewN w6 _ = w6; replace BK101 := Aside0.mk (rqB hq_ BK101.out); replace HB := Aside0.mk (rqH hq_ HB.out); clear hq_))
 have n0_ := Aside0.mk (bH_ BK101.out)
 have n1_ := Aside0.mk (bD_ HB.out)
 clear BK101
 clear HB
 have BK101 := n0_
 have HB := n1_
 clear n0_ n1_
 refine start_ (n := 13) (S := fun w' => w'.cell? ⟨gb101, 0, none⟩ = some (.string a0_0) ∧ w'.cell? ⟨gb101, 1, none⟩ = some (.int .i64 a0_1) ∧ w'.cell? ⟨gb101, 2, none⟩ = some (.int .i64 a0_2)) (ds := []) #[f_,f_,f_,f_,f_,f_,f_,f_,f_,f_,f_,f_,f_] (by kernel_rfl) rfl rfl ⟨(am_ BK101.out 0).trans rfl, (am_ BK101.out 1).trans rfl, (am_ BK101.out 2).trans rfl⟩ (fun hHeld => ?_); refine cl_ bo_.tab3 bo_.bits3 (fun HT_ HW_ => ?_)
 generalize w6.drew = w14 at BK101 HB hHeld ⊢
 refine pure_ (i := 0) (N := some 6) (v := ?_) (a' := ?_) #[t_,f_,f_,f_,f_,f_,f_,f_,f_,f_,f_,f_,f_] rfl rfl (aH_ HT_.out (by kernel_rfl)) (fun _ _ _ h => h) (Or.inl ⟨by rfl, ?_⟩) ?_ ?_
 rotate_left
 ·intro w'
  go_simp
  with_reducible rfl
 rotate_left
 ·simp only [Act.put, lsa_, ls0_, ls1_, i64_w, i32_w]
  rfl
 refine pure_ (i := 3) (N := some 9) (v := ?_) (a' := ?_) #[t_,f_,f_,t_,f_,f_,f_,f_,f_,f_,f_,f_,f_] rfl rfl (aH_ HT_.out (by kernel_rfl)) (fun _ _ _ h => h) (Or.inl ⟨by rfl, ?_⟩) ?_ ?_
 rotate_left
 ·intro w'
  go_simp
  with_reducible rfl
 rotate_left
 ·simp only [Act.put, lsa_, ls0_, ls1_, i64_w, i32_w]
  rfl
 refine pure_ (i := 8) (N := some 14) (v := ?_) (a' := ?_) #[t_,f_,f_,t_,f_,f_,f_,f_,t_,f_,f_,f_,f_] rfl rfl (aH_ HT_.out (by kernel_rfl)) (fun _ _ _ h => h) (Or.inl ⟨by rfl, ?_⟩) ?_ ?_
 rotate_left
 ·intro w'
  go_simp
  with_reducible rfl
 rotate_left
 ·simp only [Act.put, lsa_, ls0_, ls1_, i64_w, i32_w]
  rfl
 refine take_ (i := 1) (N := some 7) (v := ?_) (a' := ?_) #[t_,t_,f_,t_,f_,f_,f_,f_,t_,f_,f_,f_,f_] rfl rfl (bt_ HT_.out HW_.out (by kernel_rfl)) (fun _ _ _ h => h) (Or.inl ⟨by rfl, ?_⟩) hHeld ?_ ?_
 rotate_left
 ·rintro w' ⟨s0, s1, s2⟩
  go_simp
  with_reducible rfl
 rotate_left
 ·simp only [Act.put, lsa_, ls0_, ls1_, i64_w, i32_w]
  rfl
 refine pure_ (i := 2) (N := some 8) (v := ?_) (a' := ?_) #[t_,t_,t_,t_,f_,f_,f_,f_,t_,f_,f_,f_,f_] rfl rfl (aH_ HT_.out (by kernel_rfl)) (fun _ _ _ h => h) (Or.inl ⟨by rfl, ?_⟩) ?_ ?_
 rotate_left
 ·intro w'
  go_simp
  with_reducible rfl
 rotate_left
 ·simp only [Act.put, lsa_, ls0_, ls1_, i64_w, i32_w]
  rfl
 refine take_ (i := 4) (N := some 10) (v := ?_) (a' := ?_) #[t_,t_,t_,t_,t_,f_,f_,f_,t_,f_,f_,f_,f_] rfl rfl (bt_ HT_.out HW_.out (by kernel_rfl)) (fun _ _ _ h => h) (Or.inl ⟨by rfl, ?_⟩) hHeld ?_ ?_
 rotate_left
 ·rintro w' ⟨s0, s1, s2⟩
  go_simp
  with_reducible rfl
 rotate_left
 ·simp only [Act.put, lsa_, ls0_, ls1_, i64_w, i32_w]
  rfl
 refine take_ (i := 9) (N := some 15) (v := ?_) (a' := ?_) #[t_,t_,t_,t_,t_,f_,f_,f_,t_,t_,f_,f_,f_] rfl rfl (bt_ HT_.out HW_.out (by kernel_rfl)) (fun _ _ _ h => h) (Or.inl ⟨by rfl, ?_⟩) hHeld ?_ ?_
 rotate_left
 ·rintro w' ⟨s0, s1, s2⟩
  go_simp
  with_reducible rfl
 rotate_left
 ·simp only [Act.put, lsa_, ls0_, ls1_, i64_w, i32_w]
  rfl
 refine one_ (i := 5) (N := some 11) #[t_,t_,t_,t_,t_,t_,f_,f_,t_,t_,f_,f_,f_] rfl rfl (ct_ HT_.out (by kernel_rfl)) (by decide) (fun K hK => ?_)
 (first | refine goes_ Tryz.func52 (by kernel_rfl) rfl #[.int .i64 a0_1] (by rfl) rfl rfl (by first | rfl | (simp only [lma_, lmc_, lmn_]; first | done | rfl)) ?_ | refine RPW.df_ Tryz.func52 (by kernel_rfl) rfl #[.int .i64 a0_1] (by rfl) rfl rfl rfl (by first | rfl | (simp only [lma_, lmc_, lmn_]; first | done | rfl)) ?_ | refine RPW.dg_ Tryz.func52 (by kernel_rfl) rfl #[.int .i64 a0_1] (by rfl) rfl rfl rfl (by first | rfl | (simp only [lma_, lmc_, lmn_]; first | done | rfl)) ?_)
 with_reducible refine (ba_.calls a0_1 t103 _ ?side1 A9.out).mono ?_
 (case side1 => exact bc_ HTab_.out (by repeat (first | (with_reducible first | exact HB.out | apply bA_ | apply bN_ | apply bD_ | refine aa_ ?_ GE101.out))))
 rintro e w15 ⟨rfl, hb⟩
 refine ⟨_, rfl, ?_⟩
 have n0_ := Aside0.mk (an_ (kz BK101.out) hb)
 have n1_ := Aside0.mk (ac_ (by repeat (first | (with_reducible first | exact HB.out | apply bA_ | apply bN_ | apply bD_ | refine aa_ ?_ GE101.out))) hb)
 clear BK101
 clear HB
 have BK101 := n0_
 have HB := n1_
 clear n0_ n1_
 (try clear hb)
 refine hK.out _ _ ⟨(am_ BK101.out 0).trans rfl, (am_ BK101.out 1).trans rfl, (am_ BK101.out 2).trans rfl⟩ (fun hHeld => ?_)
 clear hK K
 refine norm_ (a' := ?_) ?_ ?_
 rotate_left
 ·show Act.put _ (some 11) _ = _
  simp only [Act.put, lsa_, ls0_, ls1_, i64_w, i32_w]
  rfl
 refine pure_ (i := 6) (N := some 12) (v := ?_) (a' := ?_) #[t_,t_,t_,t_,t_,t_,t_,f_,t_,t_,f_,f_,f_] rfl rfl (aH_ HT_.out (by kernel_rfl)) (fun _ _ _ h => h) (Or.inl ⟨by rfl, ?_⟩) ?_ ?_
 rotate_left
 ·intro w'
  go_simp
  with_reducible rfl
 rotate_left
 ·simp only [Act.put, lsa_, ls0_, ls1_, i64_w, i32_w]
  rfl
 refine pure_ (i := 7) (N := some 13) (v := ?_) (a' := ?_) #[t_,t_,t_,t_,t_,t_,t_,t_,t_,t_,f_,f_,f_] rfl rfl (aH_ HT_.out (by kernel_rfl)) (fun _ _ _ h => h) (Or.inl ⟨by rfl, ?_⟩) ?_ ?_
 rotate_left
 ·intro w'
  go_simp
  with_reducible rfl
 rotate_left
 ·simp only [Act.put, lsa_, ls0_, ls1_, i64_w, i32_w]
  rfl
 refine one_ (i := 10) (N := some 16) #[t_,t_,t_,t_,t_,t_,t_,t_,t_,t_,t_,f_,f_] rfl rfl (ct_ HT_.out (by kernel_rfl)) (by decide) (fun K hK => ?_)
 (first | refine goes_ Tryz.func52 (by kernel_rfl) rfl #[.int .i64 a0_2] (by rfl) rfl rfl (by first | rfl | (simp only [lma_, lmc_, lmn_]; first | done | rfl)) ?_ | refine RPW.df_ Tryz.func52 (by kernel_rfl) rfl #[.int .i64 a0_2] (by rfl) rfl rfl rfl (by first | rfl | (simp only [lma_, lmc_, lmn_]; first | done | rfl)) ?_ | refine RPW.dg_ Tryz.func52 (by kernel_rfl) rfl #[.int .i64 a0_2] (by rfl) rfl rfl rfl (by first | rfl | (simp only [lma_, lmc_, lmn_]; first | done | rfl)) ?_)
 with_reducible refine (ba_.calls a0_2 t104 _ ?side1 A12.out).mono ?_
 (case side1 => exact bc_ HTab_.out (by repeat (first | (with_reducible first | exact HB.out | apply bA_ | apply bN_ | apply bD_ | refine aa_ ?_ GE101.out))))
 rintro e w16 ⟨rfl, hb⟩
 refine ⟨_, rfl, ?_⟩
 have n0_ := Aside0.mk (an_ (kz BK101.out) hb)
 have n1_ := Aside0.mk (ac_ (by repeat (first | (with_reducible first | exact HB.out | apply bA_ | apply bN_ | apply bD_ | refine aa_ ?_ GE101.out))) hb)
 clear BK101
 clear HB
 have BK101 := n0_
 have HB := n1_
 clear n0_ n1_
 (try clear hb)
 refine hK.out _ _ ⟨(am_ BK101.out 0).trans rfl, (am_ BK101.out 1).trans rfl, (am_ BK101.out 2).trans rfl⟩ (fun hHeld => ?_)
 clear hK K
 refine norm_ (a' := ?_) ?_ ?_
 rotate_left
 ·show Act.put _ (some 16) _ = _
  simp only [Act.put, lsa_, ls0_, ls1_, i64_w, i32_w]
  rfl
 refine pure_ (i := 11) (N := some 17) (v := ?_) (a' := ?_) #[t_,t_,t_,t_,t_,t_,t_,t_,t_,t_,t_,t_,f_] rfl rfl (aH_ HT_.out (by kernel_rfl)) (fun _ _ _ h => h) (Or.inl ⟨by rfl, ?_⟩) ?_ ?_
 rotate_left
 ·intro w'
  go_simp
  with_reducible rfl
 rotate_left
 ·simp only [Act.put, lsa_, ls0_, ls1_, i64_w, i32_w]
  rfl
 refine pure_ (i := 12) (N := some 2) (v := ?_) (a' := ?_) #[t_,t_,t_,t_,t_,t_,t_,t_,t_,t_,t_,t_,t_] rfl rfl (aH_ HT_.out (by kernel_rfl)) (fun _ _ _ h => h) (Or.inl ⟨by rfl, ?_⟩) ?_ ?_
 rotate_left
 ·intro w'
  go_simp
  with_reducible rfl
 rotate_left
 ·simp only [Act.put, lsa_, ls0_, ls1_, i64_w, i32_w]
  rfl
 refine done_ (cN_ HT_.out (by kernel_rfl)) ?_
 try go_wp2
 go_ret
 exact ⟨by first | rfl | (simp [*, ai_, ah_] <;> rfl), by repeat (first | (with_reducible first | exact HB.out | apply bA_ | apply bN_ | apply bD_ | refine aa_ ?_ GE101.out))⟩
def strings_Join.f (l0 : List ByteArray) (a1 : ByteArray) : Option (ByteArray) := if l0.length ≤ 140737488355328 ∧ (Go.Lib.join (l0.map (·.data.toList)) a1.data.toList).length ≤ 140737488355328 then some (⟨(Go.Lib.join (l0.map (·.data.toList)) a1.data.toList).toArray⟩ : ByteArray) else none
theorem strings_Join.calls (A0 : Option Addr) (c0 : Nat) (l0 : List ByteArray) (a1 : ByteArray) (r : ByteArray) (w : World) (hr0 : Kd.C Kd.string w A0 l0.length l0) (hc0 : l0.length ≤ c0) (h : strings_Join.f l0 a1 = some r) :
  Calls Tryz.prog 59 #[.slice A0 l0.length c0, .string a1] w fun e w' => e = .returned (.string r) ∧ Below w.heap.size w w' := by
 unfold strings_Join.f at h
 split at h
 case isFalse => cases h
 rename_i hc
 obtain ⟨hN, hl⟩ := hc
 obtain rfl := Option.some.inj h
 by_cases h0 : l0.length = 0
 rotate_left
 ·obtain ⟨ad, hA, hcell⟩ := hr0.2.2 (by omega)
  subst hA
  have hc1 : ∀ j x, l0[j]? = some x → w.cell? (ad.add j) = some (.string x) := fun j x hj => by
   obtain ⟨c, hs, hK, hcc⟩ := hcell j x hj
   obtain rfl : c = [.string x] := hK
   have := hcc 0 _ rfl
   rwa [show j * Kd.string.sz + 0 = j from by show j * 1 + 0 = j; omega] at this
  obtain ⟨x0, hx0⟩ : ∃ x, l0[0]? = some x := ⟨l0[0]'(by omega), List.getElem?_eq_getElem (by omega)⟩
  have hs0 := hc1 0 x0 hx0
  have hz : ad.add 0 = ad := by unfold Addr.add; rw [if_pos rfl]
  rw [hz] at hs0
  obtain ⟨b, o, sp⟩ := ad
  obtain rfl : sp = none := World.cell?_spot hs0
  refine (Go.Proofs.Tryz.strings_Join b o c0 l0 a1 w (fun j x hj => ?_) (bl_ w _ hs0) hN hc0 hl).mono ?_
  ·have := hc1 j x hj
   unfold Addr.add at this
   split at this
   ·rename_i hj0; subst hj0; exact this
   ·exact this
  ·rintro e w' ⟨rfl, hb⟩
   exact ⟨rfl, hb⟩
 obtain rfl := List.eq_nil_of_length_eq_zero h0
 refine (Go.Proofs.Tryz.strings_Join_none A0 c0 a1 w).mono ?_
 rintro e w' ⟨rfl, rfl⟩
 exact ⟨by simp [Go.Lib.join, List.intercalate], Below.refl _ _⟩
mutual
def aS_.l0 : Nat → List Int → List Int → Int → Int → Option (ByteArray)
 | 0, _, _, _, _ => none
 | k + 1, x0, x11, x12, x13 => if x13 < x12 then (if 0 ≤ x13 then (if x13 < (x11.length : Int) then ((ar_.f (rd x11 x13) (-1000000000000) 1000000000000).bind fun t102 => (if t102 = true then (aS_.l0 k x0 x11 x12 (wrap64 (x13 + 1))) else (some (⟨#[]⟩ : ByteArray)))) else (none)) else (none)) else (if (x0.length : Int) = 0 then (some (⟨#[45]⟩ : ByteArray)) else (aS_.l1 k (([] : List ByteArray)) x0 (x0.length : Int) 0))
def aS_.l1 : Nat → List ByteArray → List Int → Int → Int → Option (ByteArray)
 | 0, _, _, _, _ => none
 | k + 1, x5, x25, x26, x27 => if x27 < x26 then (if 0 ≤ x27 then (if x27 < (x25.length : Int) then ((ba_.f (rd x25 x27)).bind fun t107 => (if x5.length < 8796093022208 then (aS_.l1 k (x5 ++ [t107]) x25 x26 (wrap64 (x27 + 1))) else (none))) else (none)) else (none)) else ((strings_Join.f x5 (⟨#[44]⟩ : ByteArray)).bind fun t111 => (some t111))
end
def aS_.f (k : Nat) (l0 : List Int) : Option (ByteArray) := if (l0.length : Int) > 64 then (some (⟨#[]⟩ : ByteArray)) else (aS_.l0 k l0 l0 (l0.length : Int) 0)
set_option maxHeartbeats 8000000 in
set_option maxRecDepth 100000 in
theorem aS_.calls (k : Nat) (A0 : Option Addr) (c0 : Nat) (l0 : List Int) (r : ByteArray) (w : World) (hr0 : Kd.C (Kd.int .i64) w A0 l0.length l0) (hc0 : l0.length ≤ c0) (hTab_ : Tab_ w) (h : aS_.f k l0 = some r) :
  Calls Tryz.prog 77 #[.slice A0 l0.length c0] w fun e w' => e = .returned (.string r) ∧ Below w.heap.size w w' := by
 have HTab_ := Aside0.mk hTab_
 clear hTab_
 have HR0 := Aside0.mk hr0
 have HC0 := Aside0.mk hc0
 clear hr0 hc0
 have HB := Aside0.mk (Below.refl w.heap.size w)
 have H : (if (l0.length : Int) > 64 then (some (⟨#[]⟩ : ByteArray)) else (aS_.l0 k l0 l0 (l0.length : Int) 0)) = some r := h
 clear h
 by_cases c2 : (l0.length : Int) > 64
 rotate_left
 ·rw [if_neg c2] at H
  have c2b0 : decide (64 < (l0.length : Int)) = false := decide_eq_false c2
  have c2b1 : decide (64 < l0.length) = false := decide_eq_false (by omega)
  clear c2
  have H' := Aside0.mk H
  clear H
  go_enter Tryz.func77, Tryz.ntmps77
  go_wp2
  (try simp only [Act.put, lsa_, ls0_, ls1_])
  go_loopg [13] k (fun kq v13 w' => ∃ (x13_1 : Int), v13 = .int .i64 x13_1 ∧ Aside0 (aS_.l0 kq l0 l0 (l0.length : Int) x13_1 = some r) ∧ Aside0 (kq ≤ k) ∧ Aside0 (Below w.heap.size w w'))
  case atStart => exact ⟨(0), (by first | rfl | (simp; done) | (simp [*]; done)), H', ⟨Nat.le_refl _⟩, ⟨bz HB.out⟩⟩
  case round =>
   clear H'
   obtain ⟨x13_1, rfl, HA, HK1, HB⟩ := hrel
   cases gk with
   | zero => exact absurd HA.out (by simp [aS_.l0])
   | succ k1 =>
    have H := HA.out
    clear HA
    simp only [aS_.l0] at H
    by_cases c3 : x13_1 < (l0.length : Int)
    rotate_left
    ·rw [if_neg c3] at H
     have c3b0 : decide (x13_1 < (l0.length : Int)) = false := decide_eq_false c3
     clear c3
     by_cases c9 : (l0.length : Int) = 0
     rotate_left
     ·rw [if_neg c9] at H
      have c9b0 : ((l0.length : Int) == 0) = false := beq_eq_false_iff_ne.mpr c9
      have c9b1 : ((l0.length : Int) != 0) = true := bne_iff_ne.mpr c9
      have c9b2 : ¬ (l0 = []) := fun h_ => c9 (by rw [h_]; rfl)
      obtain ⟨y103, hy103⟩ : ∃ y_ : List ByteArray, y_ = (([] : List ByteArray)) := ⟨_, rfl⟩
      replace H : (aS_.l1 k1 y103 l0 (l0.length : Int) 0) = some r := by first | (rw [hy103]; with_reducible exact H) | (have H2_ := (Option.bind_some _ _).symm.trans H; rw [hy103]; with_reducible exact H2_) | (have H2_ := (Option.bind_some _ _).symm.trans H; with_reducible exact H2_) | with_reducible exact H | (rw [hy103]; exact H) | exact H
      have Ny103 := Aside0.mk hy103
      clear hy103
      have H' := Aside0.mk H
      clear H
      go_wp2_with (first | ((with_reducible refine aI_ (N := 24) rfl ?_); refine Kd.R_lit Kd.string _ 9 ?hg (N := 24) ?hd (xs := ([] : List ByteArray)) (inner := []) (ok := fun _ => True) (okp := fun _ => True) ?hr ?hp (fun _ hk => hk) trivial (Below.refl _ _) (Nat.le_refl _) (by simp) ?_; (case hd => rfl); (case hg => rfl); (case hr => (go_simp; try rfl)); (case hp => exact (Reps.none _ _)); intro v104 w10 ho11 hb hg_ hnew_; clear hg_ hnew_; (first | rw [← Ny103.out] at ho11 | (simp only [Int.reduceToNat] at ho11; rw [← Ny103.out] at ho11)); have HO105 := Aside0.mk (Kd.bz_ ho11 (ad_ (bz HB.out))); replace HB := Aside0.mk (ac_ (bz HB.out) hb); clear hb ho11))
      (try simp only [Act.put, lsa_, ls0_, ls1_])
      go_loopg [5, 27] k1 (fun kq v5 v27 w' => ∃ (x5_2 : List ByteArray) (x27_2 : Int), v27 = .int .i64 x27_2 ∧ Aside0 (aS_.l1 kq x5_2 l0 (l0.length : Int) x27_2 = some r) ∧ Aside0 (kq ≤ k1) ∧ Aside0 (Kd.R Kd.string 9 w' w.heap.size (fun _ => True) v5 x5_2) ∧ Aside0 (Below w.heap.size w w'))
      case atStart => exact ⟨(y103), (0), (by first | rfl | (simp; done) | (simp [*]; done)), H', ⟨Nat.le_refl _⟩, ⟨rz HO105.out⟩, ⟨bz HB.out⟩⟩
      case round =>
       clear H'
       obtain ⟨x5_2, x27_2, rfl, HA, HK2, HO_5, HB⟩ := hrel
       cases gk with
       | zero => exact absurd HA.out (by simp [aS_.l1])
       | succ k2 =>
        have H := HA.out
        clear HA
        simp only [aS_.l1] at H
        by_cases c12 : x27_2 < (l0.length : Int)
        rotate_left
        ·rw [if_neg c12] at H
         have c12b0 : decide (x27_2 < (l0.length : Int)) = false := decide_eq_false c12
         clear c12
         replace H := Option.bind_eq_some_iff.mp H
         obtain ⟨t111, A190, H⟩ := H
         (try dsimp only at H)
         have A19 := Aside0.mk A190
         clear A190
         obtain rfl := Option.some.inj H
         obtain ⟨Ao20, co20, eo20⟩ := Kd.bv_ HO_5.out
         subst eo20
         go_wp2_with (first | ((with_reducible refine af_ (f := 59) rfl ?_); refine aJ_ (some 38) rfl rfl Tryz.func59 (by kernel_rfl) rfl #[.slice Ao20 x5_2.length co20, .string (⟨#[44]⟩ : ByteArray)] rfl (by first | rfl | (simp only [lma_, lmc_, lmn_]; first | done | rfl)) ?_; (with_reducible refine (strings_Join.calls _ _ x5_2 (⟨#[44]⟩ : ByteArray) t111 _ ?side1 ?side2 A19.out).mono ?_); (case side1 => exact cz (Kd.av_ HO_5.out).2.2); (case side2 => exact (Kd.av_ HO_5.out).2.1); rintro e w21 ⟨rfl, hb⟩; refine ⟨_, rfl, ?_⟩; replace HO_5 := Aside0.mk (Kd.aV_ (rz HO_5.out) hb); replace HB := Aside0.mk (ac_ (bz HB.out) hb); (try clear hb)))
         go_ret
         exact ⟨by first | rfl | (simp [*, ai_, ah_] <;> rfl), bz HB.out⟩
        rw [if_pos c12] at H
        have c12b0 : decide (x27_2 < (l0.length : Int)) = true := decide_eq_true c12
        clear c12
        by_cases c13 : 0 ≤ x27_2
        rotate_left
        ·rw [if_neg c13] at H
         exact absurd H (by simp)
        rw [if_pos c13] at H
        have c13b0 : decide (0 ≤ x27_2) = true := decide_eq_true c13
        clear c13
        by_cases c14 : x27_2 < (l0.length : Int)
        rotate_left
        ·rw [if_neg c14] at H
         exact absurd H (by simp)
        rw [if_pos c14] at H
        have c14b0 : decide (x27_2 < (l0.length : Int)) = true := decide_eq_true c14
        clear c14
        replace H := Option.bind_eq_some_iff.mp H
        obtain ⟨t107, A150, H⟩ := H
        (try dsimp only at H)
        have A15 := Aside0.mk A150
        clear A150
        by_cases c16 : x5_2.length < 8796093022208
        rotate_left
        ·rw [if_neg c16] at H
         exact absurd H (by simp)
        rw [if_pos c16] at H
        have LMc16 := Aside0.mk c16
        clear c16
        obtain ⟨y108, hy108⟩ : ∃ y_ : List ByteArray, y_ = (x5_2 ++ [t107]) := ⟨_, rfl⟩
        replace H : (aS_.l1 k2 y108 l0 (l0.length : Int) (wrap64 (x27_2 + 1))) = some r := by first | (rw [hy108]; with_reducible exact H) | (have H2_ := (Option.bind_some _ _).symm.trans H; rw [hy108]; with_reducible exact H2_) | (have H2_ := (Option.bind_some _ _).symm.trans H; with_reducible exact H2_) | with_reducible exact H | (rw [hy108]; exact H) | exact H
        have Ny108 := Aside0.mk hy108
        clear hy108
        have H' := Aside0.mk H
        clear H
        have p106 : 0 ≤ (x27_2 : Int) := of_decide_eq_true (by assumption)
        have q106 : x27_2 < (l0.length : Int) := of_decide_eq_true (by assumption)
        obtain ⟨ad106, e106, hx106_0⟩ := Kd.at_int HR0.out x27_2 p106 q106
        cases e106
        replace hx106_0 := bu_ HB.out hx106_0
        replace p106 := eq_true p106
        replace q106 := eq_true q106
        go_wp2_with (first | ((with_reducible refine af_ (f := 52) rfl ?_); refine aJ_ (some 33) rfl rfl Tryz.func52 (by kernel_rfl) rfl #[.int .i64 (rd l0 x27_2)] rfl (by first | rfl | (simp only [lma_, lmc_, lmn_]; first | done | rfl)) ?_; (with_reducible refine (ba_.calls (rd l0 x27_2) t107 _ ?side1 A15.out).mono ?_); (case side1 => exact bc_ HTab_.out (bz HB.out)); rintro e w17 ⟨rfl, hb⟩; refine ⟨_, rfl, ?_⟩; replace HO_5 := Aside0.mk (Kd.aV_ (rz HO_5.out) hb); replace HB := Aside0.mk (ac_ (bz HB.out) hb); (try clear hb)) | ((with_reducible refine cg_ (b := .append) (xs := #[.tmp 31, .tmp 34]) rfl ?_); at_builtin; refine Kd.R_append Kd.string (w0 := w) w.heap.size rfl (.tmp 31) (.tmp 34) 54 9 (.string ⟨#[]⟩) 16 rfl Tryz.underlying54 info9 rfl (by decide) (by omega) u5 x5_2 t107 [.string t107] (fun _ => True) (fun _ => False) rfl rfl ?aP (fun _ hk => hk.elim) ?aF ?aO ?aB ?aS ?aL ?_; (case aP => exact rfl); (case aB => exact (bz HB.out)); (case aF => exact (fun _ _ => trivial)); (case aO => exact (rz HO_5.out)); (case aS => exact (ad_ (bz HB.out))); (case aL => have := LMc16.out; omega); intro v109 w18 ho hb hg hat; rw [← Ny108.out] at ho; replace HB := Aside0.mk (hb); have HO110 := Aside0.mk (ho); clear HO_5; clear ho hb hg hat))
        go_roundg k2
        case measure => have := HK1.out; have := HK2.out; omega
        case rel => exact ⟨(y108), (wrap64 (x27_2 + 1)), (by first | rfl | (simp; done) | (simp [*]; done)), H', ⟨by have := HK1.out; have := HK2.out; omega⟩, ⟨rz HO110.out⟩, ⟨bz HB.out⟩⟩
     rw [if_pos c9] at H
     have c9b0 : ((l0.length : Int) == 0) = true := beq_iff_eq.mpr c9
     have c9b1 : ((l0.length : Int) != 0) = false := bne_eq_false_iff_eq.mpr c9
     clear c9
     obtain rfl := Option.some.inj H
     go_wp2
     go_ret
     exact ⟨by first | rfl | (simp [*, ai_, ah_] <;> rfl), bz HB.out⟩
    rw [if_pos c3] at H
    have c3b0 : decide (x13_1 < (l0.length : Int)) = true := decide_eq_true c3
    clear c3
    by_cases c4 : 0 ≤ x13_1
    rotate_left
    ·rw [if_neg c4] at H
     exact absurd H (by simp)
    rw [if_pos c4] at H
    have c4b0 : decide (0 ≤ x13_1) = true := decide_eq_true c4
    clear c4
    by_cases c5 : x13_1 < (l0.length : Int)
    rotate_left
    ·rw [if_neg c5] at H
     exact absurd H (by simp)
    rw [if_pos c5] at H
    have c5b0 : decide (x13_1 < (l0.length : Int)) = true := decide_eq_true c5
    clear c5
    replace H := Option.bind_eq_some_iff.mp H
    obtain ⟨t102, A60, H⟩ := H
    (try dsimp only at H)
    have A6 := Aside0.mk A60
    clear A60
    have HC7 := Aside0.mk H
    clear H
    have p101 : 0 ≤ (x13_1 : Int) := of_decide_eq_true (by assumption)
    have q101 : x13_1 < (l0.length : Int) := of_decide_eq_true (by assumption)
    obtain ⟨ad101, e101, hx101_0⟩ := Kd.at_int HR0.out x13_1 p101 q101
    cases e101
    replace hx101_0 := bu_ HB.out hx101_0
    replace p101 := eq_true p101
    replace q101 := eq_true q101
    go_upto_if 19 with (first | ((with_reducible refine af_ (f := 72) rfl ?_); refine aJ_ (some 18) rfl rfl Tryz.func72 (by kernel_rfl) rfl #[.int .i64 (rd l0 x13_1), .int .i64 (-1000000000000), .int .i64 1000000000000] rfl (by first | rfl | (simp only [lma_, lmc_, lmn_]; first | done | rfl)) ?_; (with_reducible refine (ar_.calls (rd l0 x13_1) (-1000000000000) 1000000000000 t102 _ A6.out).mono ?_); rintro e w' ⟨rfl, ⟨nd, rfl⟩⟩; refine ⟨_, rfl, ?_⟩; (try (rw [bm_ wr]; generalize hq_ : World.drewN wr _ = wr; replace HB := Aside0.mk (rqH hq_ HB.out); clear hq_))))
    (try simp only [Act.put, lsa_, ls0_, ls1_])
    have H := HC7.out
    clear HC7
    by_cases c8 : t102 = true
    rotate_left
    ·replace c8 := Bool.eq_false_iff.mpr c8
     subst c8
     have H1 : (some (⟨#[]⟩ : ByteArray)) = some r := by rw [if_neg (show ¬ (false = true) by decide)] at H; exact H
     clear H
     have H := H1
     clear H1
     obtain rfl := Option.some.inj H
     go_wp2
     go_ret
     exact ⟨by first | rfl | (simp [*, ai_, ah_] <;> rfl), bz HB.out⟩
    subst c8
    have H1 : (aS_.l0 k1 l0 l0 (l0.length : Int) (wrap64 (x13_1 + 1))) = some r := by rw [if_pos rfl] at H; exact H
    clear H
    have H := H1
    clear H1
    have H' := Aside0.mk H
    clear H
    go_wp2
    go_roundg k1
    case measure => have := HK1.out; omega
    case rel => exact ⟨(wrap64 (x13_1 + 1)), (by first | rfl | (simp; done) | (simp [*]; done)), H', ⟨by have := HK1.out; omega⟩, ⟨bz HB.out⟩⟩
 rw [if_pos c2] at H
 have c2b0 : decide (64 < (l0.length : Int)) = true := decide_eq_true c2
 have c2b1 : decide (64 < l0.length) = true := decide_eq_true (by omega)
 clear c2
 obtain rfl := Option.some.inj H
 go_enter Tryz.func77, Tryz.ntmps77
 go_wp2
 go_ret
 exact ⟨by first | rfl | (simp [*, ai_, ah_] <;> rfl), bz HB.out⟩
def cR_.f (k : Nat) (a0_0 : Int) (a0_1 : Int) (a0_2 : Int) (a0_3 : Int) : Option (ByteArray) := (aS_.f k (([a0_0, a0_1, a0_2, a0_3] : List Int))).bind fun t105 => (some t105)
set_option maxHeartbeats 8000000 in
set_option maxRecDepth 100000 in
theorem cR_.calls (k : Nat) (a0_0 : Int) (a0_1 : Int) (a0_2 : Int) (a0_3 : Int) (r : ByteArray) (w : World) (hTab_ : Tab_ w) (h : cR_.f k a0_0 a0_1 a0_2 a0_3 = some r) :
  Calls Tryz.prog 58 #[.agg #[.int .i64 a0_0, .int .i64 a0_1, .int .i64 a0_2, .int .i64 a0_3]] w fun e w' => e = .returned (.string r) ∧ Below w.heap.size w w' := by
 have hu66 := Tryz.underlying66
 have HTab_ := Aside0.mk hTab_
 clear hTab_
 have HB := Aside0.mk (Below.refl w.heap.size w)
 have H : ((aS_.f k (([a0_0, a0_1, a0_2, a0_3] : List Int))).bind fun t105 => (some t105)) = some r := h
 clear h
 obtain ⟨y102, hy102⟩ : ∃ y_ : List Int, y_ = (([a0_0, a0_1, a0_2, a0_3] : List Int)) := ⟨_, rfl⟩
 replace H : ((aS_.f k y102).bind fun t105 => (some t105)) = some r := by first | (rw [hy102]; with_reducible exact H) | (have H2_ := (Option.bind_some _ _).symm.trans H; rw [hy102]; with_reducible exact H2_) | (have H2_ := (Option.bind_some _ _).symm.trans H; with_reducible exact H2_) | with_reducible exact H | (rw [hy102]; exact H) | exact H
 have Ny102 := Aside0.mk hy102
 clear hy102
 replace H := Option.bind_eq_some_iff.mp H
 obtain ⟨t105, A20, H⟩ := H
 (try dsimp only at H)
 have A2 := Aside0.mk A20
 clear A20
 obtain rfl := Option.some.inj H
 go_enter Tryz.func58, Tryz.ntmps58
 go_wp2_with (first | ((with_reducible refine aI_ (N := 1) rfl ?_); refine aR_ ?hg (N := 1) ?hd (cs := #[.int .i64 a0_0, .int .i64 a0_1, .int .i64 a0_2, .int .i64 a0_3]) (t := 66) ?hr ?_; (case hd => rfl); (case hg => rfl); (case hr => (go_simp; try rfl)); intro gb101 hg w3 hbox hb; have BK101 := Aside0.mk (hbox); have GW101 := Aside0.mk ((by rw [hg]; exact (ad_ (bz HB.out)) : w.heap.size ≤ gb101)); have GE101 := Aside0.mk ((by rw [hg]; exact (ad_ (bz HB.out)) : w.heap.size ≤ gb101)); replace HB := Aside0.mk (ac_ (bz HB.out) hb); clear hb hbox hg; obtain ⟨hcz4_0, hcz4_1, hcz4_2, hcz4_3⟩ := cz4_ BK101.out; obtain ⟨hfz4_0, hfz4_1, hfz4_2, hfz4_3⟩ := fz4_ BK101.out) | ((with_reducible refine aI_ (N := 11) rfl ?_); refine Kd.R_lit (Kd.int .i64) _ 2 ?hg (N := 11) ?hd (xs := ([a0_0, a0_1, a0_2, a0_3] : List Int)) (inner := [.int .i64 a0_0, .int .i64 a0_1, .int .i64 a0_2, .int .i64 a0_3]) (ok := fun _ => True) (okp := fun _ => True) ?hr ?hp (fun _ hk => hk) trivial (Below.refl _ _) (Nat.le_refl _) (by simp) ?_; (case hd => rfl); (case hg => rfl); (case hr => (go_simp; try rfl)); (case hp => exact (Reps.one (show Kd.M (Kd.int .i64) _ _ _ a0_0 [.int .i64 a0_0] from rfl) (Reps.one (show Kd.M (Kd.int .i64) _ _ _ a0_1 [.int .i64 a0_1] from rfl) (Reps.one (show Kd.M (Kd.int .i64) _ _ _ a0_2 [.int .i64 a0_2] from rfl) (Reps.one (show Kd.M (Kd.int .i64) _ _ _ a0_3 [.int .i64 a0_3] from rfl) (Reps.none _ _)))))); intro v103 w5 ho6 hb hg_ hnew_; clear hg_ hnew_; (first | rw [← Ny102.out] at ho6 | (simp only [Int.reduceToNat] at ho6; rw [← Ny102.out] at ho6)); have HO104 := Aside0.mk (Kd.bz_ ho6 (ad_ (by repeat (first | (with_reducible first | exact HB.out | apply bA_ | apply bN_ | apply bD_ | refine aa_ ?_ GE101.out))))); replace BK101 := Aside0.mk (an_ (kz BK101.out) hb); replace HB := Aside0.mk (ac_ (by repeat (first | (with_reducible first | exact HB.out | apply bA_ | apply bN_ | apply bD_ | refine aa_ ?_ GE101.out))) hb); clear hb ho6; obtain ⟨Ao7, co7, eo7⟩ := Kd.bv_ HO104.out; subst eo7) | ((with_reducible refine af_ (f := 77) rfl ?_); refine aJ_ (some 12) rfl rfl Tryz.func77 (by kernel_rfl) rfl #[.slice Ao7 y102.length co7] rfl (by first | rfl | (simp only [lma_, lmc_, lmn_]; first | done | rfl)) ?_; (with_reducible refine (aS_.calls k _ _ y102 t105 _ ?side1 ?side2 ?side3 A2.out).mono ?_); (case side1 => exact cz (Kd.av_ HO104.out).2.2); (case side2 => exact (Kd.av_ HO104.out).2.1); (case side3 => exact bc_ HTab_.out (by repeat (first | (with_reducible first | exact HB.out | apply bA_ | apply bN_ | apply bD_ | refine aa_ ?_ GE101.out)))); rintro e w8 ⟨rfl, hb⟩; refine ⟨_, rfl, ?_⟩; replace HO104 := Aside0.mk (Kd.aV_ (rz HO104.out) hb); replace BK101 := Aside0.mk (an_ (kz BK101.out) hb); replace HB := Aside0.mk (ac_ (by repeat (first | (with_reducible first | exact HB.out | apply bA_ | apply bN_ | apply bD_ | refine aa_ ?_ GE101.out))) hb); (try clear hb)))
 go_ret
 exact ⟨by first | rfl | (simp [*, ai_, ah_] <;> rfl), by repeat (first | (with_reducible first | exact HB.out | apply bA_ | apply bN_ | apply bD_ | refine aa_ ?_ GE101.out))⟩
def aT_.l0 : Nat → List ByteArray → List (S66) → Int → Int → Option (ByteArray)
 | 0, _, _, _, _ => none
 | k + 1, x3, x29, x30, x31 => if x31 < x30 then (if 0 ≤ x31 then (if x31 < (x29.length : Int) then ((cR_.f k ((al_ x29 x31).f0) ((al_ x29 x31).f1) ((al_ x29 x31).f2) ((al_ x29 x31).f3)).bind fun t112 => (if x3.length < 8796093022208 then (aT_.l0 k (x3 ++ [t112]) x29 x30 (wrap64 (x31 + 1))) else (none))) else (none)) else (none)) else ((strings_Join.f x3 (⟨#[47]⟩ : ByteArray)).bind fun t116 => (some t116))
def aT_.f (k : Nat) (a0_0 : ByteArray) (a0_1 : ByteArray) (a0_2 : Int) (a0_3 : ByteArray) (a0_4 : Int) (a0_5 : Int) (a0_6 : Int) (a0_7 : Int) (l0_8 : List (S66)) : Option (ByteArray) := (aG_.f k a0_0 a0_1 a0_2 a0_3 a0_4 a0_5 a0_6 a0_7 l0_8).bind fun t102 => (if t102 = true then ((ba_.f a0_2).bind fun t103 => ((bo_.f a0_3 a0_4 a0_5).bind fun t104 => ((ba_.f a0_6).bind fun t105 => (if t105.size + 1 ≤ 9223372036854775807 then ((ba_.f a0_7).bind fun t106 => (if t105.size + 1 + t106.size ≤ 9223372036854775807 then (aT_.l0 k (([a0_0, a0_1, t103, t104, (t105 ++ (⟨#[120]⟩ : ByteArray)) ++ t106] : List ByteArray)) l0_8 (l0_8.length : Int) 0) else (none))) else (none))))) else (some (⟨#[]⟩ : ByteArray)))
def aT_.T3 : Bool × List (List Nat × List Nat) := (true, [([], []), ([0], [0]), ([], []), ([2], [2]), ([], []), ([4], [4]), ([5], [5]), ([], []), ([7], [7]), ([8, 6], [8]), ([], []), ([10], [10]), ([11, 9], [11]), ([12], [12]), ([], []), ([14], [14]), ([15, 12], [15]), ([13, 16], [13, 16]), ([1, 3, 6, 9, 17], [1, 3, 6, 9, 17]), ([18, 16, 0, 1, 2, 3, 4, 5, 6, 7, 8, 9, 10, 11, 12, 13, 14, 15, 16, 17, 18], [18])])
def aT_.B3 : List Nat := [0, 1, 0, 4, 0, 16, 48, 0, 128, 496, 0, 1024, 4080, 8176, 0, 16384, 57328, 131056, 262143, 524287]
theorem aT_.tab3 : rtab .any (opsOf Tryz.f39 3) = aT_.T3 := by kernel_rfl
theorem aT_.bits3 : cC_ aT_.T3.2 aT_.B3 = true := by kernel_rfl
set_option maxHeartbeats 8000000 in
set_option maxRecDepth 100000 in
theorem aT_.calls (k : Nat) (a0_0 : ByteArray) (a0_1 : ByteArray) (a0_2 : Int) (a0_3 : ByteArray) (a0_4 : Int) (a0_5 : Int) (a0_6 : Int) (a0_7 : Int) (A0_8 : Option Addr) (c0_8 : Nat) (l0_8 : List (S66)) (r : ByteArray) (w : World) (hr0_8 : Kd.C k66 w A0_8 l0_8.length l0_8) (hc0_8 : l0_8.length ≤ c0_8) (hTab_ : Tab_ w) (h : aT_.f k a0_0 a0_1 a0_2 a0_3 a0_4 a0_5 a0_6 a0_7 l0_8 = some r) :
  Calls Tryz.prog 39 #[.agg #[.string a0_0, .string a0_1, .int .i64 a0_2, .string a0_3, .int .i64 a0_4, .int .i64 a0_5, .int .i64 a0_6, .int .i64 a0_7, .slice A0_8 l0_8.length c0_8]] w fun e w' => e = .returned (.string r) ∧ Below w.heap.size w w' := by
 have hu43 := Tryz.underlying43
 have hu40 := Tryz.underlying40
 have hu66 := Tryz.underlying66
 have HTab_ := Aside0.mk hTab_
 clear hTab_
 have HR0_8 := Aside0.mk hr0_8
 have HC0_8 := Aside0.mk hc0_8
 clear hr0_8 hc0_8
 have HB := Aside0.mk (Below.refl w.heap.size w)
 have H : ((aG_.f k a0_0 a0_1 a0_2 a0_3 a0_4 a0_5 a0_6 a0_7 l0_8).bind fun t102 => (if t102 = true then ((ba_.f a0_2).bind fun t103 => ((bo_.f a0_3 a0_4 a0_5).bind fun t104 => ((ba_.f a0_6).bind fun t105 => (if t105.size + 1 ≤ 9223372036854775807 then ((ba_.f a0_7).bind fun t106 => (if t105.size + 1 + t106.size ≤ 9223372036854775807 then (aT_.l0 k (([a0_0, a0_1, t103, t104, (t105 ++ (⟨#[120]⟩ : ByteArray)) ++ t106] : List ByteArray)) l0_8 (l0_8.length : Int) 0) else (none))) else (none))))) else (some (⟨#[]⟩ : ByteArray)))) = some r := h
 clear h
 replace H := Option.bind_eq_some_iff.mp H
 obtain ⟨t102, A20, H⟩ := H
 (try dsimp only at H)
 have A2 := Aside0.mk A20
 clear A20
 have HC3 := Aside0.mk H
 clear H
 go_enter Tryz.func39, Tryz.ntmps39
 go_upto_if 8 with (first | ((with_reducible refine aI_ (N := 1) rfl ?_); refine aR_ ?hg (N := 1) ?hd (cs := #[.string a0_0, .string a0_1, .int .i64 a0_2, .string a0_3, .int .i64 a0_4, .int .i64 a0_5, .int .i64 a0_6, .int .i64 a0_7, .slice A0_8 l0_8.length c0_8]) (t := 43) ?hr ?_; (case hd => rfl); (case hg => rfl); (case hr => (go_simp; try rfl)); intro gb101 hg w4 hbox hb; have BK101 := Aside0.mk (hbox); have GW101 := Aside0.mk ((by rw [hg]; exact (ad_ (bz HB.out)) : w.heap.size ≤ gb101)); have GE101 := Aside0.mk ((by rw [hg]; exact (ad_ (bz HB.out)) : w.heap.size ≤ gb101)); replace HB := Aside0.mk (ac_ (bz HB.out) hb); clear hb hbox hg; obtain ⟨hcz5_0, hcz5_1, hcz5_2, hcz5_3, hcz5_4, hcz5_5, hcz5_6, hcz5_7, hcz5_8⟩ := cz9_ BK101.out; obtain ⟨hfz5_0, hfz5_1, hfz5_2, hfz5_3, hfz5_4, hfz5_5, hfz5_6, hfz5_7, hfz5_8⟩ := fz9_ BK101.out) | ((with_reducible refine af_ (f := 56) rfl ?_); refine aJ_ (some 7) rfl rfl Tryz.func56 (by kernel_rfl) rfl #[.agg #[.string a0_0, .string a0_1, .int .i64 a0_2, .string a0_3, .int .i64 a0_4, .int .i64 a0_5, .int .i64 a0_6, .int .i64 a0_7, .slice A0_8 l0_8.length c0_8]] rfl (by first | rfl | (simp only [lma_, lmc_, lmn_]; first | done | rfl)) ?_; (with_reducible refine (aG_.calls k a0_0 a0_1 a0_2 a0_3 a0_4 a0_5 a0_6 a0_7 _ _ l0_8 t102 _ ?side1 ?side2 A2.out).mono ?_); (case side1 => exact cz (Kd.bU_ HR0_8.out HB.out)); (case side2 => exact HC0_8.out); rintro e w6 ⟨rfl, hb⟩; refine ⟨_, rfl, ?_⟩; replace BK101 := Aside0.mk (an_ (kz BK101.out) hb); replace HB := Aside0.mk (ac_ (by repeat (first | (with_reducible first | exact HB.out | apply bA_ | apply bN_ | apply bD_ | refine aa_ ?_ GE101.out))) hb); (try clear hb)))
 (try simp only [Act.put, lsa_, ls0_, ls1_])
 have H := HC3.out
 clear HC3
 by_cases c7 : t102 = true
 rotate_left
 ·replace c7 := Bool.eq_false_iff.mpr c7
  subst c7
  have H1 : (some (⟨#[]⟩ : ByteArray)) = some r := by rw [if_neg (show ¬ (false = true) by decide)] at H; exact H
  clear H
  have H := H1
  clear H1
  obtain rfl := Option.some.inj H
  go_wp2
  go_ret
  exact ⟨by first | rfl | (simp [*, ai_, ah_] <;> rfl), by repeat (first | (with_reducible first | exact HB.out | apply bA_ | apply bN_ | apply bD_ | refine aa_ ?_ GE101.out))⟩
 subst c7
 have H1 : ((ba_.f a0_2).bind fun t103 => ((bo_.f a0_3 a0_4 a0_5).bind fun t104 => ((ba_.f a0_6).bind fun t105 => (if t105.size + 1 ≤ 9223372036854775807 then ((ba_.f a0_7).bind fun t106 => (if t105.size + 1 + t106.size ≤ 9223372036854775807 then (aT_.l0 k (([a0_0, a0_1, t103, t104, (t105 ++ (⟨#[120]⟩ : ByteArray)) ++ t106] : List ByteArray)) l0_8 (l0_8.length : Int) 0) else (none))) else (none))))) = some r := by rw [if_pos rfl] at H; exact H
 clear H
 have H := H1
 clear H1
 replace H := Option.bind_eq_some_iff.mp H
 obtain ⟨t103, A80, H⟩ := H
 (try dsimp only at H)
 have A8 := Aside0.mk A80
 clear A80
 replace H := Option.bind_eq_some_iff.mp H
 obtain ⟨t104, A90, H⟩ := H
 (try dsimp only at H)
 have A9 := Aside0.mk A90
 clear A90
 replace H := Option.bind_eq_some_iff.mp H
 obtain ⟨t105, A100, H⟩ := H
 (try dsimp only at H)
 have A10 := Aside0.mk A100
 clear A100
 by_cases c11 : t105.size + 1 ≤ 9223372036854775807
 rotate_left
 ·rw [if_neg c11] at H
  exact absurd H (by simp)
 rw [if_pos c11] at H
 have c11b0 := eq_true c11
 have c11b1 : decide (t105.size + 1 ≤ 9223372036854775807) = true := decide_eq_true c11
 try have c11b2 : (9223372036854775807 < t105.size + 1) = False := eq_false (Nat.not_lt.2 c11)
 replace H := Option.bind_eq_some_iff.mp H
 obtain ⟨t106, A120, H⟩ := H
 (try dsimp only at H)
 have A12 := Aside0.mk A120
 clear A120
 by_cases c13 : t105.size + 1 + t106.size ≤ 9223372036854775807
 rotate_left
 ·rw [if_neg c13] at H
  exact absurd H (by simp)
 rw [if_pos c13] at H
 have c13b0 := eq_true c13
 have c13b1 : decide (t105.size + 1 + t106.size ≤ 9223372036854775807) = true := decide_eq_true c13
 try have c13b2 : (9223372036854775807 < t105.size + 1 + t106.size) = False := eq_false (Nat.not_lt.2 c13)
 obtain ⟨y107, hy107⟩ : ∃ y_ : List ByteArray, y_ = (([a0_0, a0_1, t103, t104, (t105 ++ (⟨#[120]⟩ : ByteArray)) ++ t106] : List ByteArray)) := ⟨_, rfl⟩
 replace H : (aT_.l0 k y107 l0_8 (l0_8.length : Int) 0) = some r := by first | (rw [hy107]; with_reducible exact H) | (have H2_ := (Option.bind_some _ _).symm.trans H; rw [hy107]; with_reducible exact H2_) | (have H2_ := (Option.bind_some _ _).symm.trans H; with_reducible exact H2_) | with_reducible exact H | (rw [hy107]; exact H) | exact H
 have Ny107 := Aside0.mk hy107
 clear hy107
 have H' := Aside0.mk H
 clear H
 try go_wp2
 (try (rw [bm_ w6]; generalize hq_ : World.drewN w6 _ = w6; replace BK101 := Aside0.mk (rqB hq_ BK101.out); replace HB := Aside0.mk (rqH hq_ HB.out); clear hq_))
 have n0_ := Aside0.mk (bH_ BK101.out)
 have n1_ := Aside0.mk (bD_ HB.out)
 clear BK101
 clear HB
 have BK101 := n0_
 have HB := n1_
 clear n0_ n1_
 refine start_ (n := 20) (S := fun w' => w'.cell? ⟨gb101, 0, none⟩ = some (.string a0_0) ∧ w'.cell? ⟨gb101, 1, none⟩ = some (.string a0_1) ∧ w'.cell? ⟨gb101, 2, none⟩ = some (.int .i64 a0_2) ∧ w'.cell? ⟨gb101, 3, none⟩ = some (.string a0_3) ∧ w'.cell? ⟨gb101, 4, none⟩ = some (.int .i64 a0_4) ∧ w'.cell? ⟨gb101, 5, none⟩ = some (.int .i64 a0_5) ∧ w'.cell? ⟨gb101, 6, none⟩ = some (.int .i64 a0_6) ∧ w'.cell? ⟨gb101, 7, none⟩ = some (.int .i64 a0_7) ∧ w'.cell? ⟨gb101, 8, none⟩ = some (.slice A0_8 l0_8.length c0_8)) (ds := []) #[f_,f_,f_,f_,f_,f_,f_,f_,f_,f_,f_,f_,f_,f_,f_,f_,f_,f_,f_,f_] (by kernel_rfl) rfl rfl ⟨(am_ BK101.out 0).trans rfl, (am_ BK101.out 1).trans rfl, (am_ BK101.out 2).trans rfl, (am_ BK101.out 3).trans rfl, (am_ BK101.out 4).trans rfl, (am_ BK101.out 5).trans rfl, (am_ BK101.out 6).trans rfl, (am_ BK101.out 7).trans rfl, (am_ BK101.out 8).trans rfl⟩ (fun hHeld => ?_); refine cl_ aT_.tab3 aT_.bits3 (fun HT_ HW_ => ?_)
 generalize w6.drew = w14 at BK101 HB hHeld ⊢
 refine pure_ (i := 0) (N := some 9) (v := ?_) (a' := ?_) #[t_,f_,f_,f_,f_,f_,f_,f_,f_,f_,f_,f_,f_,f_,f_,f_,f_,f_,f_,f_] rfl rfl (aH_ HT_.out (by kernel_rfl)) (fun _ _ _ h => h) (Or.inl ⟨by rfl, ?_⟩) ?_ ?_
 rotate_left
 ·intro w'
  go_simp
  with_reducible rfl
 rotate_left
 ·simp only [Act.put, lsa_, ls0_, ls1_, i64_w, i32_w]
  rfl
 refine pure_ (i := 2) (N := some 11) (v := ?_) (a' := ?_) #[t_,f_,t_,f_,f_,f_,f_,f_,f_,f_,f_,f_,f_,f_,f_,f_,f_,f_,f_,f_] rfl rfl (aH_ HT_.out (by kernel_rfl)) (fun _ _ _ h => h) (Or.inl ⟨by rfl, ?_⟩) ?_ ?_
 rotate_left
 ·intro w'
  go_simp
  with_reducible rfl
 rotate_left
 ·simp only [Act.put, lsa_, ls0_, ls1_, i64_w, i32_w]
  rfl
 refine pure_ (i := 4) (N := some 13) (v := ?_) (a' := ?_) #[t_,f_,t_,f_,t_,f_,f_,f_,f_,f_,f_,f_,f_,f_,f_,f_,f_,f_,f_,f_] rfl rfl (aH_ HT_.out (by kernel_rfl)) (fun _ _ _ h => h) (Or.inl ⟨by rfl, ?_⟩) ?_ ?_
 rotate_left
 ·intro w'
  go_simp
  with_reducible rfl
 rotate_left
 ·simp only [Act.put, lsa_, ls0_, ls1_, i64_w, i32_w]
  rfl
 refine pure_ (i := 7) (N := some 16) (v := ?_) (a' := ?_) #[t_,f_,t_,f_,t_,f_,f_,t_,f_,f_,f_,f_,f_,f_,f_,f_,f_,f_,f_,f_] rfl rfl (aH_ HT_.out (by kernel_rfl)) (fun _ _ _ h => h) (Or.inl ⟨by rfl, ?_⟩) ?_ ?_
 rotate_left
 ·intro w'
  go_simp
  with_reducible rfl
 rotate_left
 ·simp only [Act.put, lsa_, ls0_, ls1_, i64_w, i32_w]
  rfl
 refine pure_ (i := 10) (N := some 19) (v := ?_) (a' := ?_) #[t_,f_,t_,f_,t_,f_,f_,t_,f_,f_,t_,f_,f_,f_,f_,f_,f_,f_,f_,f_] rfl rfl (aH_ HT_.out (by kernel_rfl)) (fun _ _ _ h => h) (Or.inl ⟨by rfl, ?_⟩) ?_ ?_
 rotate_left
 ·intro w'
  go_simp
  with_reducible rfl
 rotate_left
 ·simp only [Act.put, lsa_, ls0_, ls1_, i64_w, i32_w]
  rfl
 refine pure_ (i := 14) (N := some 23) (v := ?_) (a' := ?_) #[t_,f_,t_,f_,t_,f_,f_,t_,f_,f_,t_,f_,f_,f_,t_,f_,f_,f_,f_,f_] rfl rfl (aH_ HT_.out (by kernel_rfl)) (fun _ _ _ h => h) (Or.inl ⟨by rfl, ?_⟩) ?_ ?_
 rotate_left
 ·intro w'
  go_simp
  with_reducible rfl
 rotate_left
 ·simp only [Act.put, lsa_, ls0_, ls1_, i64_w, i32_w]
  rfl
 refine take_ (i := 1) (N := some 10) (v := ?_) (a' := ?_) #[t_,t_,t_,f_,t_,f_,f_,t_,f_,f_,t_,f_,f_,f_,t_,f_,f_,f_,f_,f_] rfl rfl (bt_ HT_.out HW_.out (by kernel_rfl)) (fun _ _ _ h => h) (Or.inl ⟨by rfl, ?_⟩) hHeld ?_ ?_
 rotate_left
 ·rintro w' ⟨s0, s1, s2, s3, s4, s5, s6, s7, s8⟩
  go_simp
  with_reducible rfl
 rotate_left
 ·simp only [Act.put, lsa_, ls0_, ls1_, i64_w, i32_w]
  rfl
 refine take_ (i := 3) (N := some 12) (v := ?_) (a' := ?_) #[t_,t_,t_,t_,t_,f_,f_,t_,f_,f_,t_,f_,f_,f_,t_,f_,f_,f_,f_,f_] rfl rfl (bt_ HT_.out HW_.out (by kernel_rfl)) (fun _ _ _ h => h) (Or.inl ⟨by rfl, ?_⟩) hHeld ?_ ?_
 rotate_left
 ·rintro w' ⟨s0, s1, s2, s3, s4, s5, s6, s7, s8⟩
  go_simp
  with_reducible rfl
 rotate_left
 ·simp only [Act.put, lsa_, ls0_, ls1_, i64_w, i32_w]
  rfl
 refine take_ (i := 5) (N := some 14) (v := ?_) (a' := ?_) #[t_,t_,t_,t_,t_,t_,f_,t_,f_,f_,t_,f_,f_,f_,t_,f_,f_,f_,f_,f_] rfl rfl (bt_ HT_.out HW_.out (by kernel_rfl)) (fun _ _ _ h => h) (Or.inl ⟨by rfl, ?_⟩) hHeld ?_ ?_
 rotate_left
 ·rintro w' ⟨s0, s1, s2, s3, s4, s5, s6, s7, s8⟩
  go_simp
  with_reducible rfl
 rotate_left
 ·simp only [Act.put, lsa_, ls0_, ls1_, i64_w, i32_w]
  rfl
 refine take_ (i := 8) (N := some 17) (v := ?_) (a' := ?_) #[t_,t_,t_,t_,t_,t_,f_,t_,t_,f_,t_,f_,f_,f_,t_,f_,f_,f_,f_,f_] rfl rfl (bt_ HT_.out HW_.out (by kernel_rfl)) (fun _ _ _ h => h) (Or.inl ⟨by rfl, ?_⟩) hHeld ?_ ?_
 rotate_left
 ·rintro w' ⟨s0, s1, s2, s3, s4, s5, s6, s7, s8⟩
  go_simp
  with_reducible rfl
 rotate_left
 ·simp only [Act.put, lsa_, ls0_, ls1_, i64_w, i32_w]
  rfl
 refine take_ (i := 11) (N := some 20) (v := ?_) (a' := ?_) #[t_,t_,t_,t_,t_,t_,f_,t_,t_,f_,t_,t_,f_,f_,t_,f_,f_,f_,f_,f_] rfl rfl (bt_ HT_.out HW_.out (by kernel_rfl)) (fun _ _ _ h => h) (Or.inl ⟨by rfl, ?_⟩) hHeld ?_ ?_
 rotate_left
 ·rintro w' ⟨s0, s1, s2, s3, s4, s5, s6, s7, s8⟩
  go_simp
  with_reducible rfl
 rotate_left
 ·simp only [Act.put, lsa_, ls0_, ls1_, i64_w, i32_w]
  rfl
 refine take_ (i := 15) (N := some 24) (v := ?_) (a' := ?_) #[t_,t_,t_,t_,t_,t_,f_,t_,t_,f_,t_,t_,f_,f_,t_,t_,f_,f_,f_,f_] rfl rfl (bt_ HT_.out HW_.out (by kernel_rfl)) (fun _ _ _ h => h) (Or.inl ⟨by rfl, ?_⟩) hHeld ?_ ?_
 rotate_left
 ·rintro w' ⟨s0, s1, s2, s3, s4, s5, s6, s7, s8⟩
  go_simp
  with_reducible rfl
 rotate_left
 ·simp only [Act.put, lsa_, ls0_, ls1_, i64_w, i32_w]
  rfl
 refine one_ (i := 6) (N := some 15) #[t_,t_,t_,t_,t_,t_,t_,t_,t_,f_,t_,t_,f_,f_,t_,t_,f_,f_,f_,f_] rfl rfl (ct_ HT_.out (by kernel_rfl)) (by decide) (fun K hK => ?_)
 (first | refine goes_ Tryz.func52 (by kernel_rfl) rfl #[.int .i64 a0_2] (by rfl) rfl rfl (by first | rfl | (simp only [lma_, lmc_, lmn_]; first | done | rfl)) ?_ | refine RPW.df_ Tryz.func52 (by kernel_rfl) rfl #[.int .i64 a0_2] (by rfl) rfl rfl rfl (by first | rfl | (simp only [lma_, lmc_, lmn_]; first | done | rfl)) ?_ | refine RPW.dg_ Tryz.func52 (by kernel_rfl) rfl #[.int .i64 a0_2] (by rfl) rfl rfl rfl (by first | rfl | (simp only [lma_, lmc_, lmn_]; first | done | rfl)) ?_)
 with_reducible refine (ba_.calls a0_2 t103 _ ?side1 A8.out).mono ?_
 (case side1 => exact bc_ HTab_.out (by repeat (first | (with_reducible first | exact HB.out | apply bA_ | apply bN_ | apply bD_ | refine aa_ ?_ GE101.out))))
 rintro e w15 ⟨rfl, hb⟩
 refine ⟨_, rfl, ?_⟩
 have n0_ := Aside0.mk (an_ (kz BK101.out) hb)
 have n1_ := Aside0.mk (ac_ (by repeat (first | (with_reducible first | exact HB.out | apply bA_ | apply bN_ | apply bD_ | refine aa_ ?_ GE101.out))) hb)
 clear BK101
 clear HB
 have BK101 := n0_
 have HB := n1_
 clear n0_ n1_
 (try clear hb)
 refine hK.out _ _ ⟨(am_ BK101.out 0).trans rfl, (am_ BK101.out 1).trans rfl, (am_ BK101.out 2).trans rfl, (am_ BK101.out 3).trans rfl, (am_ BK101.out 4).trans rfl, (am_ BK101.out 5).trans rfl, (am_ BK101.out 6).trans rfl, (am_ BK101.out 7).trans rfl, (am_ BK101.out 8).trans rfl⟩ (fun hHeld => ?_)
 clear hK K
 refine norm_ (a' := ?_) ?_ ?_
 rotate_left
 ·show Act.put _ (some 15) _ = _
  simp only [Act.put, lsa_, ls0_, ls1_, i64_w, i32_w]
  rfl
 refine one_ (i := 9) (N := some 18) #[t_,t_,t_,t_,t_,t_,t_,t_,t_,t_,t_,t_,f_,f_,t_,t_,f_,f_,f_,f_] rfl rfl (ct_ HT_.out (by kernel_rfl)) (by decide) (fun K hK => ?_)
 (first | refine goes_ Tryz.func57 (by kernel_rfl) rfl #[.agg #[.string a0_3, .int .i64 a0_4, .int .i64 a0_5]] (by rfl) rfl rfl (by first | rfl | (simp only [lma_, lmc_, lmn_]; first | done | rfl)) ?_ | refine RPW.df_ Tryz.func57 (by kernel_rfl) rfl #[.agg #[.string a0_3, .int .i64 a0_4, .int .i64 a0_5]] (by rfl) rfl rfl rfl (by first | rfl | (simp only [lma_, lmc_, lmn_]; first | done | rfl)) ?_ | refine RPW.dg_ Tryz.func57 (by kernel_rfl) rfl #[.agg #[.string a0_3, .int .i64 a0_4, .int .i64 a0_5]] (by rfl) rfl rfl rfl (by first | rfl | (simp only [lma_, lmc_, lmn_]; first | done | rfl)) ?_)
 with_reducible refine (bo_.calls a0_3 a0_4 a0_5 t104 _ ?side1 A9.out).mono ?_
 (case side1 => exact bc_ HTab_.out (by repeat (first | (with_reducible first | exact HB.out | apply bA_ | apply bN_ | apply bD_ | refine aa_ ?_ GE101.out))))
 rintro e w16 ⟨rfl, hb⟩
 refine ⟨_, rfl, ?_⟩
 have n0_ := Aside0.mk (an_ (kz BK101.out) hb)
 have n1_ := Aside0.mk (ac_ (by repeat (first | (with_reducible first | exact HB.out | apply bA_ | apply bN_ | apply bD_ | refine aa_ ?_ GE101.out))) hb)
 clear BK101
 clear HB
 have BK101 := n0_
 have HB := n1_
 clear n0_ n1_
 (try clear hb)
 refine hK.out _ _ ⟨(am_ BK101.out 0).trans rfl, (am_ BK101.out 1).trans rfl, (am_ BK101.out 2).trans rfl, (am_ BK101.out 3).trans rfl, (am_ BK101.out 4).trans rfl, (am_ BK101.out 5).trans rfl, (am_ BK101.out 6).trans rfl, (am_ BK101.out 7).trans rfl, (am_ BK101.out 8).trans rfl⟩ (fun hHeld => ?_)
 clear hK K
 refine norm_ (a' := ?_) ?_ ?_
 rotate_left
 ·show Act.put _ (some 18) _ = _
  simp only [Act.put, lsa_, ls0_, ls1_, i64_w, i32_w]
  rfl
 refine one_ (i := 12) (N := some 21) #[t_,t_,t_,t_,t_,t_,t_,t_,t_,t_,t_,t_,t_,f_,t_,t_,f_,f_,f_,f_] rfl rfl (ct_ HT_.out (by kernel_rfl)) (by decide) (fun K hK => ?_)
 (first | refine goes_ Tryz.func52 (by kernel_rfl) rfl #[.int .i64 a0_6] (by rfl) rfl rfl (by first | rfl | (simp only [lma_, lmc_, lmn_]; first | done | rfl)) ?_ | refine RPW.df_ Tryz.func52 (by kernel_rfl) rfl #[.int .i64 a0_6] (by rfl) rfl rfl rfl (by first | rfl | (simp only [lma_, lmc_, lmn_]; first | done | rfl)) ?_ | refine RPW.dg_ Tryz.func52 (by kernel_rfl) rfl #[.int .i64 a0_6] (by rfl) rfl rfl rfl (by first | rfl | (simp only [lma_, lmc_, lmn_]; first | done | rfl)) ?_)
 with_reducible refine (ba_.calls a0_6 t105 _ ?side1 A10.out).mono ?_
 (case side1 => exact bc_ HTab_.out (by repeat (first | (with_reducible first | exact HB.out | apply bA_ | apply bN_ | apply bD_ | refine aa_ ?_ GE101.out))))
 rintro e w17 ⟨rfl, hb⟩
 refine ⟨_, rfl, ?_⟩
 have n0_ := Aside0.mk (an_ (kz BK101.out) hb)
 have n1_ := Aside0.mk (ac_ (by repeat (first | (with_reducible first | exact HB.out | apply bA_ | apply bN_ | apply bD_ | refine aa_ ?_ GE101.out))) hb)
 clear BK101
 clear HB
 have BK101 := n0_
 have HB := n1_
 clear n0_ n1_
 (try clear hb)
 refine hK.out _ _ ⟨(am_ BK101.out 0).trans rfl, (am_ BK101.out 1).trans rfl, (am_ BK101.out 2).trans rfl, (am_ BK101.out 3).trans rfl, (am_ BK101.out 4).trans rfl, (am_ BK101.out 5).trans rfl, (am_ BK101.out 6).trans rfl, (am_ BK101.out 7).trans rfl, (am_ BK101.out 8).trans rfl⟩ (fun hHeld => ?_)
 clear hK K
 refine norm_ (a' := ?_) ?_ ?_
 rotate_left
 ·show Act.put _ (some 21) _ = _
  simp only [Act.put, lsa_, ls0_, ls1_, i64_w, i32_w]
  rfl
 refine pure_ (i := 13) (N := some 22) (v := ?_) (a' := ?_) #[t_,t_,t_,t_,t_,t_,t_,t_,t_,t_,t_,t_,t_,t_,t_,t_,f_,f_,f_,f_] rfl rfl (aH_ HT_.out (by kernel_rfl)) (fun _ _ _ h => h) (Or.inl ⟨by rfl, ?_⟩) ?_ ?_
 rotate_left
 ·intro w'
  go_simp
  with_reducible rfl
 rotate_left
 ·simp only [Act.put, lsa_, ls0_, ls1_, i64_w, i32_w]
  rfl
 refine one_ (i := 16) (N := some 25) #[t_,t_,t_,t_,t_,t_,t_,t_,t_,t_,t_,t_,t_,t_,t_,t_,t_,f_,f_,f_] rfl rfl (ct_ HT_.out (by kernel_rfl)) (by decide) (fun K hK => ?_)
 (first | refine goes_ Tryz.func52 (by kernel_rfl) rfl #[.int .i64 a0_7] (by rfl) rfl rfl (by first | rfl | (simp only [lma_, lmc_, lmn_]; first | done | rfl)) ?_ | refine RPW.df_ Tryz.func52 (by kernel_rfl) rfl #[.int .i64 a0_7] (by rfl) rfl rfl rfl (by first | rfl | (simp only [lma_, lmc_, lmn_]; first | done | rfl)) ?_ | refine RPW.dg_ Tryz.func52 (by kernel_rfl) rfl #[.int .i64 a0_7] (by rfl) rfl rfl rfl (by first | rfl | (simp only [lma_, lmc_, lmn_]; first | done | rfl)) ?_)
 with_reducible refine (ba_.calls a0_7 t106 _ ?side1 A12.out).mono ?_
 (case side1 => exact bc_ HTab_.out (by repeat (first | (with_reducible first | exact HB.out | apply bA_ | apply bN_ | apply bD_ | refine aa_ ?_ GE101.out))))
 rintro e w18 ⟨rfl, hb⟩
 refine ⟨_, rfl, ?_⟩
 have n0_ := Aside0.mk (an_ (kz BK101.out) hb)
 have n1_ := Aside0.mk (ac_ (by repeat (first | (with_reducible first | exact HB.out | apply bA_ | apply bN_ | apply bD_ | refine aa_ ?_ GE101.out))) hb)
 clear BK101
 clear HB
 have BK101 := n0_
 have HB := n1_
 clear n0_ n1_
 (try clear hb)
 refine hK.out _ _ ⟨(am_ BK101.out 0).trans rfl, (am_ BK101.out 1).trans rfl, (am_ BK101.out 2).trans rfl, (am_ BK101.out 3).trans rfl, (am_ BK101.out 4).trans rfl, (am_ BK101.out 5).trans rfl, (am_ BK101.out 6).trans rfl, (am_ BK101.out 7).trans rfl, (am_ BK101.out 8).trans rfl⟩ (fun hHeld => ?_)
 clear hK K
 refine norm_ (a' := ?_) ?_ ?_
 rotate_left
 ·show Act.put _ (some 25) _ = _
  simp only [Act.put, lsa_, ls0_, ls1_, i64_w, i32_w]
  rfl
 refine pure_ (i := 17) (N := some 26) (v := ?_) (a' := ?_) #[t_,t_,t_,t_,t_,t_,t_,t_,t_,t_,t_,t_,t_,t_,t_,t_,t_,t_,f_,f_] rfl rfl (aH_ HT_.out (by kernel_rfl)) (fun _ _ _ h => h) (Or.inl ⟨by rfl, ?_⟩) ?_ ?_
 rotate_left
 ·intro w'
  go_simp
  with_reducible rfl
 rotate_left
 ·simp only [Act.put, lsa_, ls0_, ls1_, i64_w, i32_w]
  rfl
 refine one_ (i := 18) (N := some 27) #[t_,t_,t_,t_,t_,t_,t_,t_,t_,t_,t_,t_,t_,t_,t_,t_,t_,t_,t_,f_] rfl rfl (ct_ HT_.out (by kernel_rfl)) (by decide) (fun K hK => ?_)
 refine Kd.R_lit_step Kd.string _ 9 ?hg (N := 27) ?hd (xs := ([a0_0, a0_1, t103, t104, (t105 ++ (⟨#[120]⟩ : ByteArray)) ++ t106] : List ByteArray)) (inner := [.string a0_0, .string a0_1, .string t103, .string t104, .string ((t105 ++ (⟨#[120]⟩ : ByteArray)) ++ t106)]) (ok := fun _ => True) (okp := fun _ => True) ?hr ?hp (fun _ hk => hk) trivial (Below.refl _ _) (Nat.le_refl _) (by simp) ?_; (case hd => rfl); (case hg => rfl); (case hr => (go_simp; try rfl)); (case hp => exact (Reps.one (show Kd.M Kd.string _ _ _ a0_0 [.string a0_0] from rfl) (Reps.one (show Kd.M Kd.string _ _ _ a0_1 [.string a0_1] from rfl) (Reps.one (show Kd.M Kd.string _ _ _ t103 [.string t103] from rfl) (Reps.one (show Kd.M Kd.string _ _ _ t104 [.string t104] from rfl) (Reps.one (show Kd.M Kd.string _ _ _ ((t105 ++ (⟨#[120]⟩ : ByteArray)) ++ t106) [.string ((t105 ++ (⟨#[120]⟩ : ByteArray)) ++ t106)] from rfl) (Reps.none _ _)))))))
 intro v108 w19 ho20 hb hg_ hnew_
 clear hg_ hnew_
 (first | rw [← Ny107.out] at ho20 | (simp only [Int.reduceToNat] at ho20; rw [← Ny107.out] at ho20))
 have n0_ := Aside0.mk (Kd.bz_ ho20 (ad_ (by repeat (first | (with_reducible first | exact HB.out | apply bA_ | apply bN_ | apply bD_ | refine aa_ ?_ GE101.out)))))
 have n1_ := Aside0.mk (an_ (kz BK101.out) hb)
 have n2_ := Aside0.mk (ac_ (by repeat (first | (with_reducible first | exact HB.out | apply bA_ | apply bN_ | apply bD_ | refine aa_ ?_ GE101.out))) hb)
 clear BK101
 clear HB
 have HO109 := n0_
 have BK101 := n1_
 have HB := n2_
 clear n0_ n1_ n2_
 clear hb ho20
 refine hK.out _ _ ⟨(am_ BK101.out 0).trans rfl, (am_ BK101.out 1).trans rfl, (am_ BK101.out 2).trans rfl, (am_ BK101.out 3).trans rfl, (am_ BK101.out 4).trans rfl, (am_ BK101.out 5).trans rfl, (am_ BK101.out 6).trans rfl, (am_ BK101.out 7).trans rfl, (am_ BK101.out 8).trans rfl⟩ (fun hHeld => ?_)
 clear hK K
 refine norm_ (a' := ?_) ?_ ?_
 rotate_left
 ·show Act.put _ (some 27) _ = _
  simp only [Act.put, lsa_, ls0_, ls1_, i64_w, i32_w]
  rfl
 refine pure_ (i := 19) (N := some 3) (v := ?_) (a' := ?_) #[t_,t_,t_,t_,t_,t_,t_,t_,t_,t_,t_,t_,t_,t_,t_,t_,t_,t_,t_,t_] rfl rfl (aH_ HT_.out (by kernel_rfl)) (fun _ _ _ h => h) (Or.inl ⟨by rfl, ?_⟩) ?_ ?_
 rotate_left
 ·intro w'
  go_simp
  with_reducible rfl
 rotate_left
 ·simp only [Act.put, lsa_, ls0_, ls1_, i64_w, i32_w]
  rfl
 refine done_ (cN_ HT_.out (by kernel_rfl)) ?_
 obtain ⟨hcz21_0, hcz21_1, hcz21_2, hcz21_3, hcz21_4, hcz21_5, hcz21_6, hcz21_7, hcz21_8⟩ := cz9_ BK101.out
 obtain ⟨hfz21_0, hfz21_1, hfz21_2, hfz21_3, hfz21_4, hfz21_5, hfz21_6, hfz21_7, hfz21_8⟩ := fz9_ BK101.out
 try go_wp2
 (try simp only [Act.put, lsa_, ls0_, ls1_])
 go_loopg [3, 31] k (fun kq v3 v31 w' => ∃ (x3_1 : List ByteArray) (x31_1 : Int), v31 = .int .i64 x31_1 ∧ Aside0 (aT_.l0 kq x3_1 l0_8 (l0_8.length : Int) x31_1 = some r) ∧ Aside0 (kq ≤ k) ∧ Aside0 (Kd.R Kd.string 9 w' w.heap.size (fun _ => True) v3 x3_1) ∧ Aside0 (w'.heap[gb101]? = some (.cells #[.string a0_0, .string a0_1, .int .i64 a0_2, .string a0_3, .int .i64 a0_4, .int .i64 a0_5, .int .i64 a0_6, .int .i64 a0_7, (.slice A0_8 l0_8.length c0_8)] 43 (0, 0))) ∧ Aside0 (Below w.heap.size w w'))
 case atStart => exact ⟨(y107), (0), (by first | rfl | (simp; done) | (simp [*]; done)), H', ⟨Nat.le_refl _⟩, ⟨rz HO109.out⟩, ⟨by (with_reducible repeat (first | refine cd_ ?_ _ | refine bH_ ?_ | refine bE_ ?_ _)); exact BK101.out⟩, ⟨by repeat (first | (with_reducible first | exact HB.out | apply bA_ | apply bN_ | apply bD_ | refine aa_ ?_ GE101.out))⟩⟩
 case round =>
  clear H'
  obtain ⟨x3_1, x31_1, rfl, HA, HK1, HO_3, BK101, HB⟩ := hrel
  cases gk with
  | zero => exact absurd HA.out (by simp [aT_.l0])
  | succ k1 =>
   have H := HA.out
   clear HA
   simp only [aT_.l0] at H
   by_cases c22 : x31_1 < (l0_8.length : Int)
   rotate_left
   ·rw [if_neg c22] at H
    have c22b0 : decide (x31_1 < (l0_8.length : Int)) = false := decide_eq_false c22
    clear c22
    (first | rw [c22b0] | (simp only [i64_w, i32_w]; rw [c22b0]) | (simp only [c22b1, Bool.not_true, Bool.not_false]) | (simp only [c22b0, Bool.not_true, Bool.not_false]) | skip)
    replace H := Option.bind_eq_some_iff.mp H
    obtain ⟨t116, A320, H⟩ := H
    (try dsimp only at H)
    have A32 := Aside0.mk A320
    clear A320
    obtain rfl := Option.some.inj H
    obtain ⟨Ao33, co33, eo33⟩ := Kd.bv_ HO_3.out
    subst eo33
    go_wp2_with (first | ((with_reducible refine af_ (f := 59) rfl ?_); refine aJ_ (some 42) rfl rfl Tryz.func59 (by kernel_rfl) rfl #[.slice Ao33 x3_1.length co33, .string (⟨#[47]⟩ : ByteArray)] rfl (by first | rfl | (simp only [lma_, lmc_, lmn_]; first | done | rfl)) ?_; (with_reducible refine (strings_Join.calls _ _ x3_1 (⟨#[47]⟩ : ByteArray) t116 _ ?side1 ?side2 A32.out).mono ?_); (case side1 => exact cz (Kd.av_ HO_3.out).2.2); (case side2 => exact (Kd.av_ HO_3.out).2.1); rintro e w34 ⟨rfl, hb⟩; refine ⟨_, rfl, ?_⟩; replace HO_3 := Aside0.mk (Kd.aV_ (rz HO_3.out) hb); replace BK101 := Aside0.mk (an_ (kz BK101.out) hb); replace HB := Aside0.mk (ac_ (by repeat (first | (with_reducible first | exact HB.out | apply bA_ | apply bN_ | apply bD_ | refine aa_ ?_ GE101.out))) hb); (try clear hb)))
    go_ret
    exact ⟨by first | rfl | (simp [*, ai_, ah_] <;> rfl), by repeat (first | (with_reducible first | exact HB.out | apply bA_ | apply bN_ | apply bD_ | refine aa_ ?_ GE101.out))⟩
   rw [if_pos c22] at H
   have c22b0 : decide (x31_1 < (l0_8.length : Int)) = true := decide_eq_true c22
   clear c22
   (first | rw [c22b0] | (simp only [i64_w, i32_w]; rw [c22b0]) | (simp only [c22b1, Bool.not_true, Bool.not_false]) | (simp only [c22b0, Bool.not_true, Bool.not_false]) | skip)
   by_cases c23 : 0 ≤ x31_1
   rotate_left
   ·rw [if_neg c23] at H
    exact absurd H (by simp)
   rw [if_pos c23] at H
   have c23b0 : decide (0 ≤ x31_1) = true := decide_eq_true c23
   clear c23
   by_cases c24 : x31_1 < (l0_8.length : Int)
   rotate_left
   ·rw [if_neg c24] at H
    exact absurd H (by simp)
   rw [if_pos c24] at H
   have c24b0 : decide (x31_1 < (l0_8.length : Int)) = true := decide_eq_true c24
   clear c24
   replace H := Option.bind_eq_some_iff.mp H
   obtain ⟨t112, A250, H⟩ := H
   (try dsimp only at H)
   have A25 := Aside0.mk A250
   clear A250
   by_cases c26 : x3_1.length < 8796093022208
   rotate_left
   ·rw [if_neg c26] at H
    exact absurd H (by simp)
   rw [if_pos c26] at H
   have LMc26 := Aside0.mk c26
   clear c26
   obtain ⟨y113, hy113⟩ : ∃ y_ : List ByteArray, y_ = (x3_1 ++ [t112]) := ⟨_, rfl⟩
   replace H : (aT_.l0 k1 y113 l0_8 (l0_8.length : Int) (wrap64 (x31_1 + 1))) = some r := by first | (rw [hy113]; with_reducible exact H) | (have H2_ := (Option.bind_some _ _).symm.trans H; rw [hy113]; with_reducible exact H2_) | (have H2_ := (Option.bind_some _ _).symm.trans H; with_reducible exact H2_) | with_reducible exact H | (rw [hy113]; exact H) | exact H
   have Ny113 := Aside0.mk hy113
   clear hy113
   have H' := Aside0.mk H
   clear H
   have p110 : 0 ≤ (x31_1 : Int) := of_decide_eq_true (by assumption)
   have q110 : x31_1 < (l0_8.length : Int) := of_decide_eq_true (by assumption)
   obtain ⟨ad110, e110, hx110_0, hx110_1, hx110_2, hx110_3⟩ := ck_ HR0_8.out x31_1 p110 q110
   cases e110
   replace hx110_0 := bu_ HB.out hx110_0
   replace hx110_1 := bu_ HB.out hx110_1
   replace hx110_2 := bu_ HB.out hx110_2
   replace hx110_3 := bu_ HB.out hx110_3
   replace p110 := eq_true p110
   replace q110 := eq_true q110
   go_wp2_with (first | ((with_reducible refine aI_ (N := 5) rfl ?_); refine aR_ ?hg (N := 5) ?hd (cs := #[.int .i64 0, .int .i64 0, .int .i64 0, .int .i64 0]) (t := 66) ?hr ?_; (case hd => rfl); (case hg => rfl); (case hr => (go_simp; try rfl)); intro gb111 hg w27 hbox hb; replace HO_3 := Aside0.mk (Kd.aV_ (rz HO_3.out) hb); have BK111 := Aside0.mk (hbox); have GW111 := Aside0.mk ((by rw [hg]; exact (ad_ (by repeat (first | (with_reducible first | exact HB.out | apply bA_ | apply bN_ | apply bD_ | refine aa_ ?_ GE101.out)))) : w.heap.size ≤ gb111)); have GE111 := Aside0.mk ((by rw [hg]; exact (ad_ (by repeat (first | (with_reducible first | exact HB.out | apply bA_ | apply bN_ | apply bD_ | refine aa_ ?_ GE101.out)))) : w.heap.size ≤ gb111)); replace HB := Aside0.mk (ac_ (by repeat (first | (with_reducible first | exact HB.out | apply bA_ | apply bN_ | apply bD_ | refine aa_ ?_ GE101.out))) hb); have NB101_111 := Aside0.mk ((by rw [hg]; exact Nat.ne_of_lt (bF_ (kz BK101.out)) : gb101 ≠ gb111)); have NB111_101 := Aside0.mk ((by rw [hg]; exact Nat.ne_of_gt (bF_ (kz BK101.out)) : gb111 ≠ gb101)); replace BK101 := Aside0.mk (an_ (kz BK101.out) hb); clear hb hbox hg; have hnb28 := NB111_101.out; have hnc28 := NB101_111.out; obtain ⟨hcz29_0, hcz29_1, hcz29_2, hcz29_3⟩ := cz4_ BK111.out; obtain ⟨hfz29_0, hfz29_1, hfz29_2, hfz29_3⟩ := fz4_ BK111.out) | ((with_reducible refine af_ (f := 58) rfl ?_); refine aJ_ (some 37) rfl rfl Tryz.func58 (by kernel_rfl) rfl #[.agg #[.int .i64 ((al_ l0_8 x31_1).f0), .int .i64 ((al_ l0_8 x31_1).f1), .int .i64 ((al_ l0_8 x31_1).f2), .int .i64 ((al_ l0_8 x31_1).f3)]] rfl (by first | rfl | (simp only [lma_, lmc_, lmn_]; first | done | rfl)) ?_; (with_reducible refine (cR_.calls k1 ((al_ l0_8 x31_1).f0) ((al_ l0_8 x31_1).f1) ((al_ l0_8 x31_1).f2) ((al_ l0_8 x31_1).f3) t112 _ ?side1 A25.out).mono ?_); (case side1 => exact bc_ HTab_.out (by repeat (first | (with_reducible first | exact HB.out | apply bA_ | apply bN_ | apply bD_ | refine aa_ ?_ GE101.out | refine aa_ ?_ GE111.out)))); rintro e w30 ⟨rfl, hb⟩; refine ⟨_, rfl, ?_⟩; replace HO_3 := Aside0.mk (Kd.aV_ (rz (Kd.bg_ (Kd.R_far (p := ⟨gb111, 3, none⟩) (Kd.R_far (p := ⟨gb111, 2, none⟩) (Kd.R_far (p := ⟨gb111, 1, none⟩) (Kd.R_far (p := ⟨gb111, 0, none⟩) (Kd.bW_ HO_3.out BK111.out (by decide)) (fun _ hk => hk.2) (.int .i64 ((al_ l0_8 x31_1).f0))) (fun _ hk => hk.2) (.int .i64 ((al_ l0_8 x31_1).f1))) (fun _ hk => hk.2) (.int .i64 ((al_ l0_8 x31_1).f2))) (fun _ hk => hk.2) (.int .i64 ((al_ l0_8 x31_1).f3))) (fun _ h_ => h_.1))) hb); replace BK101 := Aside0.mk (an_ (g := gb101) (o := .cells #[.string a0_0, .string a0_1, .int .i64 a0_2, .string a0_3, .int .i64 a0_4, .int .i64 a0_5, .int .i64 a0_6, .int .i64 a0_7, .slice (some ad110) l0_8.length c0_8] 43 (0, 0)) (by exact kf (kf (kf (kf (kz BK101.out) NB101_111.out) NB101_111.out) NB101_111.out) NB101_111.out) hb); replace BK111 := Aside0.mk (an_ (g := gb111) (o := .cells #[.int .i64 ((al_ l0_8 x31_1).f0), .int .i64 ((al_ l0_8 x31_1).f1), .int .i64 ((al_ l0_8 x31_1).f2), .int .i64 ((al_ l0_8 x31_1).f3)] 66 (0, 0)) (by exact kj4_3 (kj4_2 (kj4_1 (kj4_0 (kz BK111.out))))) hb); replace HB := Aside0.mk (ac_ (by repeat (first | (with_reducible first | exact HB.out | apply bA_ | apply bN_ | apply bD_ | refine aa_ ?_ GE101.out | refine aa_ ?_ GE111.out))) hb); (try clear hb)) | ((with_reducible refine cg_ (b := .append) (xs := #[.tmp 35, .tmp 38]) rfl ?_); at_builtin; refine Kd.R_append Kd.string (w0 := w) w.heap.size rfl (.tmp 35) (.tmp 38) 54 9 (.string ⟨#[]⟩) 16 rfl Tryz.underlying54 info9 rfl (by decide) (by omega) u3 x3_1 t112 [.string t112] (fun _ => True) (fun _ => False) rfl rfl ?aP (fun _ hk => hk.elim) ?aF ?aO ?aB ?aS ?aL ?_; (case aP => exact rfl); (case aB => exact (by repeat (first | (with_reducible first | exact HB.out | apply bA_ | apply bN_ | apply bD_ | refine aa_ ?_ GE101.out | refine aa_ ?_ GE111.out)))); (case aF => exact (fun _ _ => trivial)); (case aO => exact (rz HO_3.out)); (case aS => exact (ad_ (by repeat (first | (with_reducible first | exact HB.out | apply bA_ | apply bN_ | apply bD_ | refine aa_ ?_ GE101.out | refine aa_ ?_ GE111.out))))); (case aL => have := LMc26.out; omega); intro v114 w31 ho hb hg hat; rw [← Ny113.out] at ho; replace BK101 := Aside0.mk (co_ (g := gb101) (o := .cells #[.string a0_0, .string a0_1, .int .i64 a0_2, .string a0_3, .int .i64 a0_4, .int .i64 a0_5, .int .i64 a0_6, .int .i64 a0_7, .slice (some ad110) l0_8.length c0_8] 43 (0, 0)) (kz BK101.out) hg (Kd.R_ne HO_3.out BK101.out (by decide))); replace BK111 := Aside0.mk (co_ (g := gb111) (o := .cells #[.int .i64 ((al_ l0_8 x31_1).f0), .int .i64 ((al_ l0_8 x31_1).f1), .int .i64 ((al_ l0_8 x31_1).f2), .int .i64 ((al_ l0_8 x31_1).f3)] 66 (0, 0)) (kz BK111.out) hg (Kd.R_ne HO_3.out BK111.out (by decide))); replace HB := Aside0.mk (hb); have HO115 := Aside0.mk (ho); clear HO_3; clear ho hb hg hat))
   go_roundg k1
   case measure => have := HK1.out; omega
   case rel => exact ⟨(y113), (wrap64 (x31_1 + 1)), (by first | rfl | (simp; done) | (simp [*]; done)), H', ⟨by have := HK1.out; omega⟩, ⟨rz HO115.out⟩, ⟨by (with_reducible repeat (first | refine cd_ ?_ _ | refine bH_ ?_ | refine bE_ ?_ _)); exact BK101.out⟩, ⟨by repeat (first | (with_reducible first | exact HB.out | apply bA_ | apply bN_ | apply bD_ | refine aa_ ?_ GE101.out | refine aa_ ?_ GE111.out))⟩⟩
end Go.Proofs.YtckboiphlhhckaaGreatDoor.Q
