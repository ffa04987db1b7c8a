/- For all arguments that the law's sizes let in, the program's LoadBlocks gives what the reference gives. This text holds the functions' walks and the words for them. -/
import Derived.KernelRfl
import Derived.Lib.Bytealg
import Derived.Lib.ItoaLen
import Derived.Lib.SplitLaws
import Derived.Lib.IndexBytes
import Derived.Test.YtjebkmfljcanlaaDoorKFnExactLoadBlocksa
import Derived.Test.YtjebkmfljcanlaaDoorKFnExactLoadBlocksb
set_option linter.unusedVariables false
set_option linter.unusedSimpArgs false
namespace Go.Proofs.YtjebkmfljcanlaaDoor.Q
open Go.RowKit Go.Proofs.YtjebkmfljcanlaaDoorW.PrintWords Go.Proofs.YtjebkmfljcanlaaDoorW.PrintLast Go.Proofs.YtjebkmfljcanlaaDoorW.PrintMore
attribute [local go_sem] aL_ aN_ aT_ aU_ aF_ aE_ aK_ aM_
def stringslite_HasPrefix.f (a0 : ByteArray) (a1 : ByteArray) : Option (Bool) := if (a0.size : Int) ≥ (a1.size : Int) then (if 0 ≤ (a1.size : Int) then (if (a1.size : Int) ≤ (a0.size : Int) then (some ((a0.extract 0 ((a1.size : Int) : Int).toNat).toList == a1.toList)) else (none)) else (none)) else (some false)
set_option maxHeartbeats 8000000 in
set_option maxRecDepth 100000 in
theorem stringslite_HasPrefix.calls (a0 : ByteArray) (a1 : ByteArray) (r : Bool) (w : World) (h : stringslite_HasPrefix.f a0 a1 = some r) :
  Calls Tryd.prog 78 #[.string a0, .string a1] w fun e w' => e = .returned (.bool r) ∧ ah_ w w' := by
 have H : (if (a0.size : Int) ≥ (a1.size : Int) then (if 0 ≤ (a1.size : Int) then (if (a1.size : Int) ≤ (a0.size : Int) then (some ((a0.extract 0 ((a1.size : Int) : Int).toNat).toList == a1.toList)) else (none)) else (none)) else (some false)) = some r := h
 clear h
 by_cases c3 : (a0.size : Int) ≥ (a1.size : Int)
 rotate_left
 ·rw [if_neg c3] at H
  have c3b0 : decide ((a1.size : Int) ≤ (a0.size : Int)) = false := decide_eq_false c3
  have c3b1 : decide (a1.size ≤ a0.size) = false := decide_eq_false (fun h => c3 (Int.ofNat_le.mpr h))
  clear c3
  obtain rfl := Option.some.inj H
  go_enter Tryd.func78, Tryd.ntmps78
  go_wp2
  go_ret
  exact ⟨by first | rfl | (simp; done) | (simp [*]; done), by repeat (first | exact ah_.refl _ | apply ah_.step)⟩
 rw [if_pos c3] at H
 have c3b0 : decide ((a1.size : Int) ≤ (a0.size : Int)) = true := decide_eq_true c3
 have c3b1 : decide (a1.size ≤ a0.size) = true := decide_eq_true (Int.ofNat_le.mp c3)
 clear c3
 by_cases c4 : 0 ≤ (a1.size : Int)
 rotate_left
 ·rw [if_neg c4] at H
  exact absurd H (by simp)
 rw [if_pos c4] at H
 have c4b0 := eq_true c4
 have c4b1 : decide (0 ≤ (a1.size : Int)) = true := decide_eq_true c4
 clear c4
 by_cases c5 : (a1.size : Int) ≤ (a0.size : Int)
 rotate_left
 ·rw [if_neg c5] at H
  exact absurd H (by simp)
 rw [if_pos c5] at H
 have c5b0 := eq_true c5
 have c5b1 : decide ((a1.size : Int) ≤ (a0.size : Int)) = true := decide_eq_true c5
 clear c5
 obtain rfl := Option.some.inj H
 go_enter Tryd.func78, Tryd.ntmps78
 go_wp2
 go_ret
 exact ⟨by first | rfl | (simp; done) | (simp [*]; done), by repeat (first | exact ah_.refl _ | apply ah_.step)⟩
def stringslite_CutPrefix.f (a0 : ByteArray) (a1 : ByteArray) : Option (ByteArray × Bool) := (stringslite_HasPrefix.f a0 a1).bind fun t101 => (if t101 = true then (if 0 ≤ (a1.size : Int) then (if (a1.size : Int) ≤ (a0.size : Int) then (some (a0.extract ((a1.size : Int) : Int).toNat a0.size, true)) else (none)) else (none)) else (some (a0, false)))
set_option maxHeartbeats 8000000 in
set_option maxRecDepth 100000 in
theorem stringslite_CutPrefix.calls (a0 : ByteArray) (a1 : ByteArray) (r1 : ByteArray) (r2 : Bool) (w : World) (h : stringslite_CutPrefix.f a0 a1 = some (r1, r2)) :
  Calls Tryd.prog 57 #[.string a0, .string a1] w fun e w' => e = .returned (.tuple #[.string r1, .bool r2]) ∧ ah_ w w' := by
 have H : ((stringslite_HasPrefix.f a0 a1).bind fun t101 => (if t101 = true then (if 0 ≤ (a1.size : Int) then (if (a1.size : Int) ≤ (a0.size : Int) then (some (a0.extract ((a1.size : Int) : Int).toNat a0.size, true)) else (none)) else (none)) else (some (a0, false)))) = some (r1, r2) := h
 clear h
 replace H := Option.bind_eq_some_iff.mp H
 obtain ⟨t101, A30, H⟩ := H
 (try dsimp only at H)
 have A3 := Aside0.mk A30
 clear A30
 have HC4 := Aside0.mk H
 clear H
 go_enter Tryd.func57, Tryd.ntmps57
 go_upto_if 9 with (first | ((with_reducible refine as_ (f := 78) rfl ?_); refine aY_ (some 8) rfl rfl Tryd.func78 (by kernel_rfl) rfl #[.string a0, .string a1] rfl (by first | rfl | (simp only [List.map_toArray, List.map_cons, List.map_nil]; first | done | rfl)) ?_; (with_reducible refine (stringslite_HasPrefix.calls a0 a1 t101 _ A3.out).mono ?_); rintro e w' ⟨rfl, ⟨nd, rfl⟩⟩; refine ⟨_, rfl, ?_⟩))
 (try simp only [Act.put, lsa_, ls0_, ls1_])
 have H := HC4.out
 clear HC4
 by_cases c5 : t101 = true
 rotate_left
 ·replace c5 := Bool.eq_false_iff.mpr c5
  subst c5
  have H1 : (some (a0, false)) = some (r1, r2) := by rw [if_neg (show ¬ (false = true) by decide)] at H; exact H
  clear H
  have H := H1
  clear H1
  simp only [Option.some.injEq, Prod.mk.injEq] at H
  obtain ⟨rfl, rfl⟩ := H
  go_wp2
  go_ret2
  exact ⟨by first | rfl | (simp; done) | (simp [*]; done), by repeat (first | exact ah_.refl _ | apply ah_.step)⟩
 subst c5
 have H1 : (if 0 ≤ (a1.size : Int) then (if (a1.size : Int) ≤ (a0.size : Int) then (some (a0.extract ((a1.size : Int) : Int).toNat a0.size, true)) else (none)) else (none)) = some (r1, r2) := by rw [if_pos rfl] at H; exact H
 clear H
 have H := H1
 clear H1
 by_cases c6 : 0 ≤ (a1.size : Int)
 rotate_left
 ·rw [if_neg c6] at H
  exact absurd H (by simp)
 rw [if_pos c6] at H
 have c6b0 := eq_true c6
 have c6b1 : decide (0 ≤ (a1.size : Int)) = true := decide_eq_true c6
 clear c6
 by_cases c7 : (a1.size : Int) ≤ (a0.size : Int)
 rotate_left
 ·rw [if_neg c7] at H
  exact absurd H (by simp)
 rw [if_pos c7] at H
 have c7b0 := eq_true c7
 have c7b1 : decide ((a1.size : Int) ≤ (a0.size : Int)) = true := decide_eq_true c7
 clear c7
 simp only [Option.some.injEq, Prod.mk.injEq] at H
 obtain ⟨rfl, rfl⟩ := H
 go_wp2
 go_ret2
 exact ⟨by first | rfl | (simp; done) | (simp [*]; done), by repeat (first | exact ah_.refl _ | apply ah_.step)⟩
def strings_CutPrefix.f (a0 : ByteArray) (a1 : ByteArray) : Option (ByteArray × Bool) := (stringslite_CutPrefix.f a0 a1).bind fun bt101 => (some (bt101.1, bt101.2))
set_option maxHeartbeats 8000000 in
set_option maxRecDepth 100000 in
theorem strings_CutPrefix.calls (a0 : ByteArray) (a1 : ByteArray) (r1 : ByteArray) (r2 : Bool) (w : World) (h : strings_CutPrefix.f a0 a1 = some (r1, r2)) :
  Calls Tryd.prog 33 #[.string a0, .string a1] w fun e w' => e = .returned (.tuple #[.string r1, .bool r2]) ∧ ah_ w w' := by
 have H : ((stringslite_CutPrefix.f a0 a1).bind fun bt101 => (some (bt101.1, bt101.2))) = some (r1, r2) := h
 clear h
 replace H := Option.bind_eq_some_iff.mp H
 obtain ⟨⟨t101, t102⟩, A30, H⟩ := H
 (try dsimp only at H)
 have A3 := Aside0.mk A30
 clear A30
 simp only [Option.some.injEq, Prod.mk.injEq] at H
 obtain ⟨rfl, rfl⟩ := H
 go_enter Tryd.func33, Tryd.ntmps33
 go_wp2_with (first | ((with_reducible refine as_ (f := 57) rfl ?_); refine aY_ (some 8) rfl rfl Tryd.func57 (by kernel_rfl) rfl #[.string a0, .string a1] rfl (by first | rfl | (simp only [List.map_toArray, List.map_cons, List.map_nil]; first | done | rfl)) ?_; (with_reducible refine (stringslite_CutPrefix.calls a0 a1 t101 t102 _ A3.out).mono ?_); rintro e w' ⟨rfl, ⟨nd, rfl⟩⟩; refine ⟨_, rfl, ?_⟩))
 go_ret2
 exact ⟨by first | rfl | (simp; done) | (simp [*]; done), by repeat (first | exact ah_.refl _ | apply ah_.step)⟩
def strings_HasPrefix.f (a0 : ByteArray) (a1 : ByteArray) : Option (Bool) := (stringslite_HasPrefix.f a0 a1).bind fun t101 => (some t101)
set_option maxHeartbeats 8000000 in
set_option maxRecDepth 100000 in
theorem strings_HasPrefix.calls (a0 : ByteArray) (a1 : ByteArray) (r : Bool) (w : World) (h : strings_HasPrefix.f a0 a1 = some r) :
  Calls Tryd.prog 58 #[.string a0, .string a1] w fun e w' => e = .returned (.bool r) ∧ ah_ w w' := by
 have H : ((stringslite_HasPrefix.f a0 a1).bind fun t101 => (some t101)) = some r := h
 clear h
 replace H := Option.bind_eq_some_iff.mp H
 obtain ⟨t101, A30, H⟩ := H
 (try dsimp only at H)
 have A3 := Aside0.mk A30
 clear A30
 obtain rfl := Option.some.inj H
 go_enter Tryd.func58, Tryd.ntmps58
 go_wp2_with (first | ((with_reducible refine as_ (f := 78) rfl ?_); refine aY_ (some 7) rfl rfl Tryd.func78 (by kernel_rfl) rfl #[.string a0, .string a1] rfl (by first | rfl | (simp only [List.map_toArray, List.map_cons, List.map_nil]; first | done | rfl)) ?_; (with_reducible refine (stringslite_HasPrefix.calls a0 a1 t101 _ A3.out).mono ?_); rintro e w' ⟨rfl, ⟨nd, rfl⟩⟩; refine ⟨_, rfl, ?_⟩))
 go_ret
 exact ⟨by first | rfl | (simp; done) | (simp [*]; done), by repeat (first | exact ah_.refl _ | apply ah_.step)⟩
mutual
def ao_.j0 : Nat → ByteArray → ByteArray → Option (Int × Bool)
 | 0, _, _ => none
 | k + 1, x0, x4 => if (x4.size : Int) < 1 then (ao_.j1 k x0 x4 true) else (ao_.j1 k x0 x4 (decide ((x4.size : Int) > 18)))
def ao_.j1 : Nat → ByteArray → ByteArray → Bool → Option (Int × Bool)
 | 0, _, _, _ => none
 | k + 1, x0, x4, x19 => if x19 = true then (some (0, false)) else (ao_.l0 k x0 x4 0 0)
def ao_.l0 : Nat → ByteArray → ByteArray → Int → Int → Option (Int × Bool)
 | 0, _, _, _, _ => none
 | k + 1, x0, x4, x5, x6 => if x6 < (x4.size : Int) then (if 0 ≤ x6 then (if (bt x4 x6) < 48 then (some (0, false)) else (if (bt x4 x6) > 57 then (some (0, false)) else (ao_.l0 k x0 x4 (wrap64 ((wrap64 (x5 * 10)) + (((bt x4 x6) - 48) % 256))) (wrap64 (x6 + 1))))) else (none)) else (if (x4.size : Int) < (x0.size : Int) then ((bj_.f (wrap64 (-x5))).bind fun t102 => (if t102.toList = x0.toList then (some (wrap64 (-x5), true)) else (some (0, false)))) else ((bj_.f x5).bind fun t103 => (if t103.toList = x0.toList then (some (x5, true)) else (some (0, false)))))
end
def ao_.f (k : Nat) (a0 : ByteArray) : Option (Int × Bool) := (strings_HasPrefix.f a0 (⟨#[45]⟩ : ByteArray)).bind fun t101 => (if t101 = true then (if 1 ≤ (a0.size : Int) then (ao_.j0 k a0 (a0.extract 1 a0.size)) else (none)) else (ao_.j0 k a0 a0))
set_option maxHeartbeats 8000000 in
set_option maxRecDepth 100000 in
theorem ao_.calls (k : Nat) (a0 : ByteArray) (r1 : Int) (r2 : Bool) (w : World) (hTab_ : Tab_ w) (h : ao_.f k a0 = some (r1, r2)) :
  Calls Tryd.prog 34 #[.string a0] w fun e w' => e = .returned (.tuple #[.int .i64 r1, .bool r2]) ∧ Below w.heap.size w w' := by
 have HTab_ := Aside0.mk hTab_
 clear hTab_
 have HB := Aside0.mk (Below.refl w.heap.size w)
 have H : ((strings_HasPrefix.f a0 (⟨#[45]⟩ : ByteArray)).bind fun t101 => (if t101 = true then (if 1 ≤ (a0.size : Int) then (ao_.j0 k a0 (a0.extract 1 a0.size)) else (none)) else (ao_.j0 k a0 a0))) = some (r1, r2) := h
 clear h
 replace H := Option.bind_eq_some_iff.mp H
 obtain ⟨t101, A20, H⟩ := H
 (try dsimp only at H)
 have A2 := Aside0.mk A20
 clear A20
 have HC3 := Aside0.mk H
 clear H
 go_enter Tryd.func34, Tryd.ntmps34
 go_upto_if 9 with (first | ((with_reducible refine as_ (f := 58) rfl ?_); refine aY_ (some 9) rfl rfl Tryd.func58 (by kernel_rfl) rfl #[.string a0, .string (⟨#[45]⟩ : ByteArray)] rfl (by first | rfl | (simp only [List.map_toArray, List.map_cons, List.map_nil]; first | done | rfl)) ?_; (with_reducible refine (strings_HasPrefix.calls a0 (⟨#[45]⟩ : ByteArray) t101 _ A2.out).mono ?_); rintro e w' ⟨rfl, ⟨nd, rfl⟩⟩; refine ⟨_, rfl, ?_⟩))
 (try simp only [Act.put, lsa_, ls0_, ls1_])
 go_cut [4] (fun v4 wc => ∃ (kq : Nat) (x4_2 : ByteArray), v4 = .string x4_2 ∧ Aside0 (ao_.j0 kq a0 x4_2 = some (r1, r2)) ∧ Aside0 (kq ≤ k) ∧ Aside0 (Below w.heap.size w wc))
 case first =>
  have H := HC3.out
  clear HC3
  by_cases c4 : t101 = true
  rotate_left
  ·replace c4 := Bool.eq_false_iff.mpr c4
   subst c4
   have H1 : (ao_.j0 k a0 a0) = some (r1, r2) := by rw [if_neg (show ¬ (false = true) by decide)] at H; exact H
   clear H
   have H := H1
   clear H1
   have H' := Aside0.mk H
   clear H
   go_wp2
   go_meet
   case rel => exact ⟨_, (a0), (by first | rfl | (simp; done) | (simp [*]; done)), H', ⟨by first | omega | exact Nat.le_refl _⟩, ⟨bz HB.out⟩⟩
  subst c4
  have H1 : (if 1 ≤ (a0.size : Int) then (ao_.j0 k a0 (a0.extract 1 a0.size)) else (none)) = some (r1, r2) := by rw [if_pos rfl] at H; exact H
  clear H
  have H := H1
  clear H1
  by_cases c5 : 1 ≤ (a0.size : Int)
  rotate_left
  ·rw [if_neg c5] at H
   exact absurd H (by simp)
  rw [if_pos c5] at H
  have c5b0 := eq_true c5
  have c5b1 : decide (1 ≤ (a0.size : Int)) = true := decide_eq_true c5
  clear c5
  have H' := Aside0.mk H
  clear H
  go_wp2
  go_meet
  case rel => exact ⟨_, (a0.extract 1 a0.size), (by first | rfl | (simp; done) | (simp [*]; done)), H', ⟨by first | omega | exact Nat.le_refl _⟩, ⟨bz HB.out⟩⟩
 case rest =>
  clear HC3
  obtain ⟨kq, x4_2, rfl, HA, HJ2, HB⟩ := hcut
  cases kq with
  | zero => exact absurd HA.out (by simp [ao_.j0])
  | succ kj2 =>
   have H := HA.out
   clear HA
   simp only [ao_.j0] at H
   have HC6 := Aside0.mk H
   clear H
   go_upto_region 4 with (fail)
   go_cut [19] (fun v19 wc => ∃ (kq : Nat) (x19_5 : Bool), v19 = .bool x19_5 ∧ Aside0 (ao_.j1 kq a0 x4_2 x19_5 = some (r1, r2)) ∧ Aside0 (kq ≤ kj2) ∧ Aside0 (Below w.heap.size w wc))
   case first =>
    have H := HC6.out
    clear HC6
    by_cases c7 : (x4_2.size : Int) < 1
    rotate_left
    ·rw [if_neg c7] at H
     have c7b0 : decide ((x4_2.size : Int) < 1) = false := decide_eq_false c7
     have c7b1 : decide (x4_2.size < 1) = false := decide_eq_false (by omega)
     clear c7
     (first | rw [c7b0] | (simp only [i64_w, i32_w]; rw [c7b0]) | (simp only [c7b1, Bool.not_true, Bool.not_false]) | (simp only [c7b0, Bool.not_true, Bool.not_false]) | skip)
     have H' := Aside0.mk H
     clear H
     go_wp2
     go_meet
     case rel => exact ⟨_, (decide ((x4_2.size : Int) > 18)), (by first | rfl | (simp; done) | (simp [*]; done)), H', ⟨by have := HJ2.out; first | omega | exact Nat.le_refl _⟩, ⟨bz HB.out⟩⟩
    rw [if_pos c7] at H
    have c7b0 : decide ((x4_2.size : Int) < 1) = true := decide_eq_true c7
    have c7b1 : decide (x4_2.size < 1) = true := decide_eq_true (by omega)
    clear c7
    (first | rw [c7b0] | (simp only [i64_w, i32_w]; rw [c7b0]) | (simp only [c7b1, Bool.not_true, Bool.not_false]) | (simp only [c7b0, Bool.not_true, Bool.not_false]) | skip)
    have H' := Aside0.mk H
    clear H
    go_wp2
    go_meet
    case rel => exact ⟨_, (true), (by first | rfl | (simp; done) | (simp [*]; done)), H', ⟨by have := HJ2.out; first | omega | exact Nat.le_refl _⟩, ⟨bz HB.out⟩⟩
   case rest =>
    clear HC6
    obtain ⟨kq, x19_5, rfl, HA, HJ5, HB⟩ := hcut
    cases kq with
    | zero => exact absurd HA.out (by simp [ao_.j1])
    | succ kj5 =>
     have H := HA.out
     clear HA
     simp only [ao_.j1] at H
     by_cases c8 : x19_5 = true
     rotate_left
     ·replace c8 := Bool.eq_false_iff.mpr c8
      subst c8
      have H1 : (ao_.l0 kj5 a0 x4_2 0 0) = some (r1, r2) := by rw [if_neg (show ¬ (false = true) by decide)] at H; exact H
      clear H
      have H := H1
      clear H1
      have H' := Aside0.mk H
      clear H
      go_wp2
      (try simp only [Act.put, lsa_, ls0_, ls1_])
      go_loopg [5, 6] kj5 (fun kq v5 v6 w' => ∃ (x5_3 : Int) (x6_3 : Int), v5 = .int .i64 x5_3 ∧ v6 = .int .i64 x6_3 ∧ Aside0 (ao_.l0 kq a0 x4_2 x5_3 x6_3 = some (r1, r2)) ∧ Aside0 (kq ≤ kj5) ∧ Aside0 (Below w.heap.size w w'))
      case atStart => exact ⟨(0), (0), (by first | rfl | (simp; done) | (simp [*]; done)), (by first | rfl | (simp; done) | (simp [*]; done)), H', ⟨Nat.le_refl _⟩, ⟨bz HB.out⟩⟩
      case round =>
       clear H'
       obtain ⟨x5_3, x6_3, rfl, rfl, HA, HK3, HB⟩ := hrel
       cases gk with
       | zero => exact absurd HA.out (by simp [ao_.l0])
       | succ k3 =>
        have H := HA.out
        clear HA
        simp only [ao_.l0] at H
        by_cases c9 : x6_3 < (x4_2.size : Int)
        rotate_left
        ·rw [if_neg c9] at H
         have c9b0 : decide (x6_3 < (x4_2.size : Int)) = false := decide_eq_false c9
         clear c9
         by_cases c16 : (x4_2.size : Int) < (a0.size : Int)
         rotate_left
         ·rw [if_neg c16] at H
          have c16b0 : decide ((x4_2.size : Int) < (a0.size : Int)) = false := decide_eq_false c16
          have c16b1 : decide (x4_2.size < a0.size) = false := decide_eq_false (fun h => c16 (Int.ofNat_lt.mpr h))
          clear c16
          replace H := Option.bind_eq_some_iff.mp H
          obtain ⟨t103, A210, H⟩ := H
          (try dsimp only at H)
          have A21 := Aside0.mk A210
          clear A210
          have HC22 := Aside0.mk H
          clear H
          go_upto_if 54 with (first | ((with_reducible refine as_ (f := 59) rfl ?_); refine aY_ (some 52) rfl rfl Tryd.func59 (by kernel_rfl) rfl #[.int .i64 x5_3] rfl (by first | rfl | (simp only [List.map_toArray, List.map_cons, List.map_nil]; first | done | rfl)) ?_; (with_reducible refine (bj_.calls x5_3 t103 _ ?side1 A21.out).mono ?_); (case side1 => exact bx_ HTab_.out (bz HB.out)); rintro e w23 ⟨rfl, hb⟩; refine ⟨_, rfl, ?_⟩; replace HB := Aside0.mk (au_ (bz HB.out) hb); (try clear hb)))
          (try simp only [Act.put, lsa_, ls0_, ls1_])
          have H := HC22.out
          clear HC22
          by_cases c24 : t103.toList = a0.toList
          rotate_left
          ·rw [if_neg c24] at H
           have c24b0 : (t103.toList == a0.toList) = false := beq_eq_false_iff_ne.mpr c24
           have c24b1 : (t103.toList != a0.toList) = true := bne_iff_ne.mpr c24
           (first | rw [c24b0] | (simp only [i64_w, i32_w]; rw [c24b0]) | (simp only [c24b1, Bool.not_true, Bool.not_false]) | (simp only [c24b0, Bool.not_true, Bool.not_false]) | skip)
           simp only [Option.some.injEq, Prod.mk.injEq] at H
           obtain ⟨rfl, rfl⟩ := H
           go_wp2
           go_ret2
           exact ⟨by first | rfl | (simp [*, ap_, aq_] <;> rfl), bz HB.out⟩
          rw [if_pos c24] at H
          have c24b0 : (t103.toList == a0.toList) = true := beq_iff_eq.mpr c24
          have c24b1 : (t103.toList != a0.toList) = false := bne_eq_false_iff_eq.mpr c24
          clear c24
          (first | rw [c24b0] | (simp only [i64_w, i32_w]; rw [c24b0]) | (simp only [c24b1, Bool.not_true, Bool.not_false]) | (simp only [c24b0, Bool.not_true, Bool.not_false]) | skip)
          simp only [Option.some.injEq, Prod.mk.injEq] at H
          obtain ⟨rfl, rfl⟩ := H
          go_wp2
          go_ret2
          exact ⟨by first | rfl | (simp [*, ap_, aq_] <;> rfl), bz HB.out⟩
         rw [if_pos c16] at H
         have c16b0 : decide ((x4_2.size : Int) < (a0.size : Int)) = true := decide_eq_true c16
         have c16b1 : decide (x4_2.size < a0.size) = true := decide_eq_true (Int.ofNat_lt.mp c16)
         clear c16
         replace H := Option.bind_eq_some_iff.mp H
         obtain ⟨t102, A170, H⟩ := H
         (try dsimp only at H)
         have A17 := Aside0.mk A170
         clear A170
         have HC18 := Aside0.mk H
         clear H
         go_upto_if 54 with (first | ((with_reducible refine as_ (f := 59) rfl ?_); refine aY_ (some 52) rfl rfl Tryd.func59 (by kernel_rfl) rfl #[.int .i64 (wrap64 (-x5_3))] rfl (by first | rfl | (simp only [List.map_toArray, List.map_cons, List.map_nil]; first | done | rfl)) ?_; (with_reducible refine (bj_.calls (wrap64 (-x5_3)) t102 _ ?side1 A17.out).mono ?_); (case side1 => exact bx_ HTab_.out (bz HB.out)); rintro e w19 ⟨rfl, hb⟩; refine ⟨_, rfl, ?_⟩; replace HB := Aside0.mk (au_ (bz HB.out) hb); (try clear hb)))
         (try simp only [Act.put, lsa_, ls0_, ls1_])
         have H := HC18.out
         clear HC18
         by_cases c20 : t102.toList = a0.toList
         rotate_left
         ·rw [if_neg c20] at H
          have c20b0 : (t102.toList == a0.toList) = false := beq_eq_false_iff_ne.mpr c20
          have c20b1 : (t102.toList != a0.toList) = true := bne_iff_ne.mpr c20
          (first | rw [c20b0] | (simp only [i64_w, i32_w]; rw [c20b0]) | (simp only [c20b1, Bool.not_true, Bool.not_false]) | (simp only [c20b0, Bool.not_true, Bool.not_false]) | skip)
          simp only [Option.some.injEq, Prod.mk.injEq] at H
          obtain ⟨rfl, rfl⟩ := H
          go_wp2
          go_ret2
          exact ⟨by first | rfl | (simp [*, ap_, aq_] <;> rfl), bz HB.out⟩
         rw [if_pos c20] at H
         have c20b0 : (t102.toList == a0.toList) = true := beq_iff_eq.mpr c20
         have c20b1 : (t102.toList != a0.toList) = false := bne_eq_false_iff_eq.mpr c20
         clear c20
         (first | rw [c20b0] | (simp only [i64_w, i32_w]; rw [c20b0]) | (simp only [c20b1, Bool.not_true, Bool.not_false]) | (simp only [c20b0, Bool.not_true, Bool.not_false]) | skip)
         simp only [Option.some.injEq, Prod.mk.injEq] at H
         obtain ⟨rfl, rfl⟩ := H
         go_wp2
         go_ret2
         exact ⟨by first | rfl | (simp [*, ap_, aq_] <;> rfl), bz HB.out⟩
        rw [if_pos c9] at H
        have c9b0 : decide (x6_3 < (x4_2.size : Int)) = true := decide_eq_true c9
        clear c9
        by_cases c10 : 0 ≤ x6_3
        rotate_left
        ·rw [if_neg c10] at H
         exact absurd H (by simp)
        rw [if_pos c10] at H
        have c10b0 : decide (0 ≤ x6_3) = true := decide_eq_true c10
        clear c10
        by_cases c12 : (bt x4_2 x6_3) < 48
        rotate_left
        ·rw [if_neg c12] at H
         have c12b0 : decide ((bt x4_2 x6_3) < 48) = false := decide_eq_false c12
         clear c12
         by_cases c14 : (bt x4_2 x6_3) > 57
         rotate_left
         ·rw [if_neg c14] at H
          have c14b0 : decide (57 < (bt x4_2 x6_3)) = false := decide_eq_false c14
          clear c14
          have H' := Aside0.mk H
          clear H
          have p11 : 0 ≤ (x6_3 : Int) := of_decide_eq_true (by assumption)
          have q11 : x6_3 < (x4_2.size : Int) := of_decide_eq_true (by assumption)
          have hx11 := bt_at x4_2 x6_3
          replace p11 := eq_true p11
          replace q11 := eq_true q11
          have p13 : 0 ≤ (x6_3 : Int) := of_decide_eq_true (by assumption)
          have q13 : x6_3 < (x4_2.size : Int) := of_decide_eq_true (by assumption)
          have hx13 := bt_at x4_2 x6_3
          replace p13 := eq_true p13
          replace q13 := eq_true q13
          have p15 : 0 ≤ (x6_3 : Int) := of_decide_eq_true (by assumption)
          have q15 : x6_3 < (x4_2.size : Int) := of_decide_eq_true (by assumption)
          have hx15 := bt_at x4_2 x6_3
          replace p15 := eq_true p15
          replace q15 := eq_true q15
          go_wp2
          go_roundg k3
          case measure => have := HJ2.out; have := HJ5.out; have := HK3.out; omega
          case rel => exact ⟨(wrap64 ((wrap64 (x5_3 * 10)) + (((bt x4_2 x6_3) - 48) % 256))), (wrap64 (x6_3 + 1)), (by first | rfl | (simp; done) | (simp [*]; done)), (by first | rfl | (simp; done) | (simp [*]; done)), H', ⟨by have := HJ2.out; have := HJ5.out; have := HK3.out; omega⟩, ⟨bz HB.out⟩⟩
         rw [if_pos c14] at H
         have c14b0 : decide (57 < (bt x4_2 x6_3)) = true := decide_eq_true c14
         clear c14
         simp only [Option.some.injEq, Prod.mk.injEq] at H
         obtain ⟨rfl, rfl⟩ := H
         have p11 : 0 ≤ (x6_3 : Int) := of_decide_eq_true (by assumption)
         have q11 : x6_3 < (x4_2.size : Int) := of_decide_eq_true (by assumption)
         have hx11 := bt_at x4_2 x6_3
         replace p11 := eq_true p11
         replace q11 := eq_true q11
         have p13 : 0 ≤ (x6_3 : Int) := of_decide_eq_true (by assumption)
         have q13 : x6_3 < (x4_2.size : Int) := of_decide_eq_true (by assumption)
         have hx13 := bt_at x4_2 x6_3
         replace p13 := eq_true p13
         replace q13 := eq_true q13
         go_wp2
         go_ret2
         exact ⟨by first | rfl | (simp [*, ap_, aq_] <;> rfl), bz HB.out⟩
        rw [if_pos c12] at H
        have c12b0 : decide ((bt x4_2 x6_3) < 48) = true := decide_eq_true c12
        clear c12
        simp only [Option.some.injEq, Prod.mk.injEq] at H
        obtain ⟨rfl, rfl⟩ := H
        have p11 : 0 ≤ (x6_3 : Int) := of_decide_eq_true (by assumption)
        have q11 : x6_3 < (x4_2.size : Int) := of_decide_eq_true (by assumption)
        have hx11 := bt_at x4_2 x6_3
        replace p11 := eq_true p11
        replace q11 := eq_true q11
        go_wp2
        go_ret2
        exact ⟨by first | rfl | (simp [*, ap_, aq_] <;> rfl), bz HB.out⟩
     subst c8
     have H1 : (some (0, false)) = some (r1, r2) := by rw [if_pos rfl] at H; exact H
     clear H
     have H := H1
     clear H1
     simp only [Option.some.injEq, Prod.mk.injEq] at H
     obtain ⟨rfl, rfl⟩ := H
     go_wp2
     go_ret2
     exact ⟨by first | rfl | (simp [*, ap_, aq_] <;> rfl), bz HB.out⟩
def strings_Compare.f (a0 : ByteArray) (a1 : ByteArray) : Option (Int) := some (Go.Lib.compareBytes a0.data.toList a1.data.toList)
theorem strings_Compare.calls (a0 : ByteArray) (a1 : ByteArray) (r : Int) (w : World) (h : strings_Compare.f a0 a1 = some r) :
  Calls Tryd.prog 60 #[.string a0, .string a1] w fun e w' => e = .returned (.int .i64 r) ∧ ah_ w w' := by
 obtain rfl := Option.some.inj h
 refine (Go.Proofs.Tryd.strings_Compare a0 a1 w).mono ?_
 rintro e w' ⟨rfl, rfl⟩
 exact ⟨rfl, ah_.refl _⟩
def bb_.f (a0_0 : ByteArray) (a0_1 : ByteArray) (a0_2 : ByteArray) (a1_0 : ByteArray) (a1_1 : ByteArray) (a1_2 : ByteArray) : Option (Int) := (strings_Compare.f a0_0 a1_0).bind fun t103 => (if t103 = 0 then ((strings_Compare.f a0_1 a1_1).bind fun t104 => (some t104)) else (some t103))
set_option maxHeartbeats 8000000 in
set_option maxRecDepth 100000 in
theorem bb_.calls (a0_0 : ByteArray) (a0_1 : ByteArray) (a0_2 : ByteArray) (a1_0 : ByteArray) (a1_1 : ByteArray) (a1_2 : ByteArray) (r : Int) (w : World) (h : bb_.f a0_0 a0_1 a0_2 a1_0 a1_1 a1_2 = some r) :
  Calls Tryd.prog 36 #[.agg #[.string a0_0, .string a0_1, .string a0_2], .agg #[.string a1_0, .string a1_1, .string a1_2]] w fun e w' => e = .returned (.int .i64 r) ∧ Below w.heap.size w w' := by
 have hu43 := Tryd.underlying43
 have HB := Aside0.mk (Below.refl w.heap.size w)
 have H : ((strings_Compare.f a0_0 a1_0).bind fun t103 => (if t103 = 0 then ((strings_Compare.f a0_1 a1_1).bind fun t104 => (some t104)) else (some t103))) = some r := h
 clear h
 replace H := Option.bind_eq_some_iff.mp H
 obtain ⟨t103, A30, H⟩ := H
 (try dsimp only at H)
 have A3 := Aside0.mk A30
 clear A30
 have HC4 := Aside0.mk H
 clear H
 go_enter Tryd.func36, Tryd.ntmps36
 go_upto_if 12 with (first | ((with_reducible refine bn_ (N := 2) rfl ?_); refine bs_ ?hg (N := 2) ?hd (cs := #[.string a0_0, .string a0_1, .string a0_2]) (t := 43) ?hr ?_; (case hd => rfl); (case hg => rfl); (case hr => (go_simp; try rfl)); intro gb101 hg w5 hbox hb; have BK101 := Aside0.mk (hbox); have GW101 := Aside0.mk ((by rw [hg]; exact (aw_ (bz HB.out)) : w.heap.size ≤ gb101)); have GE101 := Aside0.mk ((by rw [hg]; exact (aw_ (bz HB.out)) : w.heap.size ≤ gb101)); replace HB := Aside0.mk (au_ (bz HB.out) hb); clear hb hbox hg) | ((with_reducible refine bn_ (N := 3) rfl ?_); refine bs_ ?hg (N := 3) ?hd (cs := #[.string a1_0, .string a1_1, .string a1_2]) (t := 43) ?hr ?_; (case hd => rfl); (case hg => rfl); (case hr => (go_simp; try rfl)); intro gb102 hg w6 hbox hb; have BK102 := Aside0.mk (hbox); have GW102 := Aside0.mk ((by rw [hg]; exact (aw_ (by repeat (first | (with_reducible first | exact HB.out | apply bA_ | apply bN_ | apply bD_ | refine al_ ?_ GE101.out) | exact HB.out))) : w.heap.size ≤ gb102)); have GE102 := Aside0.mk ((by rw [hg]; exact (aw_ (by repeat (first | (with_reducible first | exact HB.out | apply bA_ | apply bN_ | apply bD_ | refine al_ ?_ GE101.out) | exact HB.out))) : w.heap.size ≤ gb102)); replace HB := Aside0.mk (au_ (by repeat (first | (with_reducible first | exact HB.out | apply bA_ | apply bN_ | apply bD_ | refine al_ ?_ GE101.out) | exact HB.out)) hb); have NB101_102 := Aside0.mk ((by rw [hg]; exact Nat.ne_of_lt (blk_lt (g := gb101) (o := .cells #[.string a0_0, .string a0_1, .string a0_2] 43 (0, 0)) (kz BK101.out)) : gb101 ≠ gb102)); have NB102_101 := Aside0.mk ((by rw [hg]; exact Nat.ne_of_gt (blk_lt (g := gb101) (o := .cells #[.string a0_0, .string a0_1, .string a0_2] 43 (0, 0)) (kz BK101.out)) : gb102 ≠ gb101)); replace BK101 := Aside0.mk (bv_ (g := gb101) (o := .cells #[.string a0_0, .string a0_1, .string a0_2] 43 (0, 0)) (kz BK101.out) hb); clear hb hbox hg; have hnb7 := NB101_102.out; have hnc7 := NB102_101.out; have hcz8_0 : w6.cell? ⟨gb101, 0, none⟩ = some (.string a0_0) := (ai_ BK101.out 0).trans rfl; have hcz8_1 : w6.cell? ⟨gb101, 1, none⟩ = some (.string a0_1) := (ai_ BK101.out 1).trans rfl; have hcz8_2 : w6.cell? ⟨gb101, 2, none⟩ = some (.string a0_2) := (ai_ BK101.out 2).trans rfl; have hfz8_0 := ab_ BK101.out 0; have hfz8_1 := ab_ BK101.out 1; have hfz8_2 := ab_ BK101.out 2; have hcz9_0 : w6.cell? ⟨gb102, 0, none⟩ = some (.string a1_0) := (ai_ BK102.out 0).trans rfl; have hcz9_1 : w6.cell? ⟨gb102, 1, none⟩ = some (.string a1_1) := (ai_ BK102.out 1).trans rfl; have hcz9_2 : w6.cell? ⟨gb102, 2, none⟩ = some (.string a1_2) := (ai_ BK102.out 2).trans rfl; have hfz9_0 := ab_ BK102.out 0; have hfz9_1 := ab_ BK102.out 1; have hfz9_2 := ab_ BK102.out 2) | ((with_reducible refine as_ (f := 60) rfl ?_); refine aY_ (some 10) rfl rfl Tryd.func60 (by kernel_rfl) rfl #[.string a0_0, .string a1_0] rfl (by first | rfl | (simp only [List.map_toArray, List.map_cons, List.map_nil]; first | done | rfl)) ?_; (with_reducible refine (strings_Compare.calls a0_0 a1_0 t103 _ A3.out).mono ?_); rintro e w' ⟨rfl, ⟨nd, rfl⟩⟩; refine ⟨_, rfl, ?_⟩; (try (rw [bq_ w6]; generalize hq_ : World.drewN w6 _ = w6; have n0_ : Aside0 (w6.heap[gb101]? = some (.cells #[.string a0_0, .string a0_1, .string a0_2] 43 (0, 0))) := ⟨by rw [← hq_]; exact (kz BK101.out)⟩; have n1_ : Aside0 (w6.heap[gb102]? = some (.cells #[.string a1_0, .string a1_1, .string a1_2] 43 (0, 0))) := ⟨by rw [← hq_]; exact (kz BK102.out)⟩; have n2_ : Aside0 (Below w.heap.size w w6) := ⟨by rw [← hq_]; exact (by repeat (first | (with_reducible first | exact HB.out | apply bA_ | apply bN_ | apply bD_ | refine al_ ?_ GE101.out | refine al_ ?_ GE102.out) | exact HB.out))⟩; clear BK101 BK102 HB hq_; have BK101 := n0_; have BK102 := n1_; have HB := n2_; clear n0_ n1_ n2_))))
 (try simp only [Act.put, lsa_, ls0_, ls1_])
 have H := HC4.out
 clear HC4
 by_cases c10 : t103 = 0
 rotate_left
 ·rw [if_neg c10] at H
  have c10b0 : (t103 == 0) = false := beq_eq_false_iff_ne.mpr c10
  have c10b1 : (t103 != 0) = true := bne_iff_ne.mpr c10
  (first | rw [c10b0] | (simp only [i64_w, i32_w]; rw [c10b0]) | (simp only [c10b1, Bool.not_true, Bool.not_false]) | (simp only [c10b0, Bool.not_true, Bool.not_false]) | skip)
  obtain rfl := Option.some.inj H
  go_wp2
  go_ret
  exact ⟨by first | rfl | (simp [*, ap_, aq_] <;> rfl), by repeat (first | (with_reducible first | exact HB.out | apply bA_ | apply bN_ | apply bD_ | refine al_ ?_ GE101.out | refine al_ ?_ GE102.out) | exact HB.out)⟩
 rw [if_pos c10] at H
 have c10b0 : (t103 == 0) = true := beq_iff_eq.mpr c10
 have c10b1 : (t103 != 0) = false := bne_eq_false_iff_eq.mpr c10
 clear c10
 (first | rw [c10b0] | (simp only [i64_w, i32_w]; rw [c10b0]) | (simp only [c10b1, Bool.not_true, Bool.not_false]) | (simp only [c10b0, Bool.not_true, Bool.not_false]) | skip)
 replace H := Option.bind_eq_some_iff.mp H
 obtain ⟨t104, A110, H⟩ := H
 (try dsimp only at H)
 have A11 := Aside0.mk A110
 clear A110
 obtain rfl := Option.some.inj H
 have hnb12 := NB101_102.out
 have hnc12 := NB102_101.out
 have hcz13_0 : w6.cell? ⟨gb101, 0, none⟩ = some (.string a0_0) := (ai_ BK101.out 0).trans rfl
 have hcz13_1 : w6.cell? ⟨gb101, 1, none⟩ = some (.string a0_1) := (ai_ BK101.out 1).trans rfl
 have hcz13_2 : w6.cell? ⟨gb101, 2, none⟩ = some (.string a0_2) := (ai_ BK101.out 2).trans rfl
 have hfz13_0 := ab_ BK101.out 0
 have hfz13_1 := ab_ BK101.out 1
 have hfz13_2 := ab_ BK101.out 2
 have hcz14_0 : w6.cell? ⟨gb102, 0, none⟩ = some (.string a1_0) := (ai_ BK102.out 0).trans rfl
 have hcz14_1 : w6.cell? ⟨gb102, 1, none⟩ = some (.string a1_1) := (ai_ BK102.out 1).trans rfl
 have hcz14_2 : w6.cell? ⟨gb102, 2, none⟩ = some (.string a1_2) := (ai_ BK102.out 2).trans rfl
 have hfz14_0 := ab_ BK102.out 0
 have hfz14_1 := ab_ BK102.out 1
 have hfz14_2 := ab_ BK102.out 2
 go_wp2_with (first | ((with_reducible refine as_ (f := 60) rfl ?_); refine aY_ (some 18) rfl rfl Tryd.func60 (by kernel_rfl) rfl #[.string a0_1, .string a1_1] rfl (by first | rfl | (simp only [List.map_toArray, List.map_cons, List.map_nil]; first | done | rfl)) ?_; (with_reducible refine (strings_Compare.calls a0_1 a1_1 t104 _ A11.out).mono ?_); rintro e w' ⟨rfl, ⟨nd, rfl⟩⟩; refine ⟨_, rfl, ?_⟩; (try (rw [bq_ w6]; generalize hq_ : World.drewN w6 _ = w6; have n0_ : Aside0 (w6.heap[gb101]? = some (.cells #[.string a0_0, .string a0_1, .string a0_2] 43 (0, 0))) := ⟨by rw [← hq_]; exact (kz BK101.out)⟩; have n1_ : Aside0 (w6.heap[gb102]? = some (.cells #[.string a1_0, .string a1_1, .string a1_2] 43 (0, 0))) := ⟨by rw [← hq_]; exact (kz BK102.out)⟩; have n2_ : Aside0 (Below w.heap.size w w6) := ⟨by rw [← hq_]; exact (by repeat (first | (with_reducible first | exact HB.out | apply bA_ | apply bN_ | apply bD_ | refine al_ ?_ GE101.out | refine al_ ?_ GE102.out) | exact HB.out))⟩; clear BK101 BK102 HB hq_; have BK101 := n0_; have BK102 := n1_; have HB := n2_; clear n0_ n1_ n2_))))
 go_ret
 exact ⟨by first | rfl | (simp [*, ap_, aq_] <;> rfl), by repeat (first | (with_reducible first | exact HB.out | apply bA_ | apply bN_ | apply bD_ | refine al_ ?_ GE101.out | refine al_ ?_ GE102.out) | exact HB.out)⟩
mutual
def aa_.j0 : Nat → List ByteArray → Int → Bool → Option ((List (S43)) × Int × Int)
 | 0, _, _, _ => none
 | k + 1, x5, x8, x46 => if x46 = true then (some (([] : List (S43)), 1, 9)) else (if 1 ≤ (x5.length : Int) then ((some (x5.drop 1 : List ByteArray)).bind fun y114 => (aa_.l0 k x5 x8 (([] : List (S43))) y114 (y114.length : Int) 0)) else (none))
def aa_.l0 : Nat → List ByteArray → Int → List (S43) → List ByteArray → Int → Int → Option ((List (S43)) × Int × Int)
 | 0, _, _, _, _, _, _ => none
 | k + 1, x5, x8, x10, x49, x50, x51 => if x51 < x50 then (if 0 ≤ x51 then (if x51 < (x49.length : Int) then ((av_.f k (rdOf ByteArray.empty x49 x51)).bind fun bt119 => (if bt119.2.2.2 = 0 then (if x51 > 0 then (if 0 ≤ (wrap64 (x51 - 1)) then (if (wrap64 (x51 - 1)) < (x10.length : Int) then ((bb_.f ((aj_ x10 (wrap64 (x51 - 1))).f0) ((aj_ x10 (wrap64 (x51 - 1))).f1) ((aj_ x10 (wrap64 (x51 - 1))).f2) bt119.1 bt119.2.1 bt119.2.2.1).bind fun t125 => (aa_.j2 k x5 x8 x10 x51 bt119.2.2.2 x49 x50 x51 (decide (t125 ≥ 0)) bt119.1 bt119.2.1 bt119.2.2.1)) else (none)) else (none)) else (aa_.j2 k x5 x8 x10 x51 bt119.2.2.2 x49 x50 x51 false bt119.1 bt119.2.1 bt119.2.2.1)) else (aa_.j2 k x5 x8 x10 x51 bt119.2.2.2 x49 x50 x51 false bt119.1 bt119.2.1 bt119.2.2.1))) else (none)) else (none)) else (if (x10.length : Int) = x8 then (some (x10, 0, 0)) else (some (([] : List (S43)), 0, 11)))
def aa_.j2 : Nat → List ByteArray → Int → List (S43) → Int → Int → List ByteArray → Int → Int → Bool → ByteArray → ByteArray → ByteArray → Option ((List (S43)) × Int × Int)
 | 0, _, _, _, _, _, _, _, _, _, _, _, _ => none
 | k + 1, x5, x8, x10, x11, x14, x49, x50, x51, x76, x124000, x124001, x124002 => if x76 = true then (some (([] : List (S43)), wrap64 (x11 + 2), 7)) else (if x14 = 0 then (if x10.length < 2932031007402 then (aa_.l0 k x5 x8 (x10 ++ [(⟨x124000, x124001, x124002⟩ : S43)]) x49 x50 (wrap64 (x51 + 1))) else (none)) else (some (([] : List (S43)), wrap64 (x11 + 2), x14)))
end
def aa_.f (k : Nat) (a0 : ByteArray) : Option ((List (S43)) × Int × Int) := (strings_HasSuffix.f a0 (⟨#[10]⟩ : ByteArray)).bind fun t101 => (if t101 = true then (if 0 ≤ (wrap64 ((a0.size : Int) - 1)) then (if (wrap64 ((a0.size : Int) - 1)) ≤ (a0.size : Int) then ((strings_Split.f (a0.extract 0 ((wrap64 ((a0.size : Int) - 1)) : Int).toNat) (⟨#[10]⟩ : ByteArray)).bind fun t102 => (if 0 < (t102.length : Int) then ((strings_CutPrefix.f (rdOf ByteArray.empty t102 0) (⟨#[97, 114, 99, 104, 105, 118, 101, 32]⟩ : ByteArray)).bind fun bt106 => ((ao_.f k bt106.1).bind fun bt108 => (if bt106.2 = true then (if bt108.2 = true then ((bg_.f bt108.1 0 32).bind fun t110 => (aa_.j0 k t102 bt108.1 (!t110))) else (aa_.j0 k t102 bt108.1 true)) else (aa_.j0 k t102 bt108.1 true)))) else (none))) else (none)) else (none)) else (some (([] : List (S43)), 0, 11)))
def aa_.T13 : Bool × List (List Nat × List Nat) := (true, [([], []), ([0], [0]), ([1], [1]), ([2], [2]), ([3, 2], [2, 3]), ([2, 4], [2, 4]), ([5, 2], [5]), ([6], [6]), ([6], [6]), ([8, 6], [6, 8]), ([7, 9, 6], [6, 7, 9]), ([10, 6], [6, 10]), ([6], [6]), ([11, 12, 6, 6], [6, 11, 12]), ([13, 6], [6, 13]), ([6, 14], [6, 14])])
def aa_.B13 : List Nat := [0, 1, 3, 7, 15, 31, 63, 127, 127, 383, 1023, 2047, 127, 8191, 16383, 32767]
theorem aa_.tab13 : rtab .any (opsOf Tryd.f13 13) = aa_.T13 := by kernel_rfl
theorem aa_.bits13 : waitsOk aa_.T13.2 aa_.B13 = true := by kernel_rfl
set_option maxHeartbeats 8000000 in
set_option maxRecDepth 100000 in
theorem aa_.calls (k : Nat) (a0 : ByteArray) (r1 : List (S43)) (r2 : Int) (r3 : Int) (w : World) (hTab_ : Tab_ w) (h : aa_.f k a0 = some (r1, r2, r3)) :
  Calls Tryd.prog 13 #[.string a0] w fun e w' => ∃ v0_ : Value, e = .returned (.tuple #[v0_, .int .i64 r2, .int .i64 r3]) ∧ Kd.R k43 43 w' w.heap.size (fun _ => True) v0_ r1 ∧ Below w.heap.size w w' := by
 have hu43 := Tryd.underlying43
 have HTab_ := Aside0.mk hTab_
 clear hTab_
 have HB := Aside0.mk (Below.refl w.heap.size w)
 have H : ((strings_HasSuffix.f a0 (⟨#[10]⟩ : ByteArray)).bind fun t101 => (if t101 = true then (if 0 ≤ (wrap64 ((a0.size : Int) - 1)) then (if (wrap64 ((a0.size : Int) - 1)) ≤ (a0.size : Int) then ((strings_Split.f (a0.extract 0 ((wrap64 ((a0.size : Int) - 1)) : Int).toNat) (⟨#[10]⟩ : ByteArray)).bind fun t102 => (if 0 < (t102.length : Int) then ((strings_CutPrefix.f (rdOf ByteArray.empty t102 0) (⟨#[97, 114, 99, 104, 105, 118, 101, 32]⟩ : ByteArray)).bind fun bt106 => ((ao_.f k bt106.1).bind fun bt108 => (if bt106.2 = true then (if bt108.2 = true then ((bg_.f bt108.1 0 32).bind fun t110 => (aa_.j0 k t102 bt108.1 (!t110))) else (aa_.j0 k t102 bt108.1 true)) else (aa_.j0 k t102 bt108.1 true)))) else (none))) else (none)) else (none)) else (some (([] : List (S43)), 0, 11)))) = some (r1, r2, r3) := h
 clear h
 replace H := Option.bind_eq_some_iff.mp H
 obtain ⟨t101, A20, H⟩ := H
 (try dsimp only at H)
 have A2 := Aside0.mk A20
 clear A20
 have HC3 := Aside0.mk H
 clear H
 go_enter Tryd.func13, Tryd.ntmps13
 go_upto_if 17 with (first | ((with_reducible refine as_ (f := 32) rfl ?_); refine aY_ (some 16) rfl rfl Tryd.func32 (by kernel_rfl) rfl #[.string a0, .string (⟨#[10]⟩ : ByteArray)] rfl (by first | rfl | (simp only [List.map_toArray, List.map_cons, List.map_nil]; first | done | rfl)) ?_; (with_reducible refine (strings_HasSuffix.calls a0 (⟨#[10]⟩ : ByteArray) t101 _ A2.out).mono ?_); rintro e w' ⟨rfl, ⟨nd, rfl⟩⟩; refine ⟨_, rfl, ?_⟩))
 (try simp only [Act.put, lsa_, ls0_, ls1_])
 have H := HC3.out
 clear HC3
 by_cases c4 : t101 = true
 rotate_left
 ·replace c4 := Bool.eq_false_iff.mpr c4
  subst c4
  have H1 : (some (([] : List (S43)), 0, 11)) = some (r1, r2, r3) := by rw [if_neg (show ¬ (false = true) by decide)] at H; exact H
  clear H
  have H := H1
  clear H1
  simp only [Option.some.injEq, Prod.mk.injEq] at H
  obtain ⟨rfl, rfl, rfl⟩ := H
  go_wp2
  go_ret3
  exact ⟨_, by first | rfl | (simp [*, ap_, aq_] <;> rfl), by first | exact Kd.R_nil _ _ _ _ _ | exact Kd.N_nil _ _ _ _ _ | exact Kd.V_nil _ _ _ _ _ | exact Kd.Q_nil _ _ _ _ _ | exact Kd.S_nil _ _ _ _ _, bz HB.out⟩
 subst c4
 have H1 : (if 0 ≤ (wrap64 ((a0.size : Int) - 1)) then (if (wrap64 ((a0.size : Int) - 1)) ≤ (a0.size : Int) then ((strings_Split.f (a0.extract 0 ((wrap64 ((a0.size : Int) - 1)) : Int).toNat) (⟨#[10]⟩ : ByteArray)).bind fun t102 => (if 0 < (t102.length : Int) then ((strings_CutPrefix.f (rdOf ByteArray.empty t102 0) (⟨#[97, 114, 99, 104, 105, 118, 101, 32]⟩ : ByteArray)).bind fun bt106 => ((ao_.f k bt106.1).bind fun bt108 => (if bt106.2 = true then (if bt108.2 = true then ((bg_.f bt108.1 0 32).bind fun t110 => (aa_.j0 k t102 bt108.1 (!t110))) else (aa_.j0 k t102 bt108.1 true)) else (aa_.j0 k t102 bt108.1 true)))) else (none))) else (none)) else (none)) = some (r1, r2, r3) := by rw [if_pos rfl] at H; exact H
 clear H
 have H := H1
 clear H1
 obtain ⟨ji5, hji5⟩ : ∃ j_ : Int, (wrap64 ((a0.size : Int) - 1)) = j_ := ⟨_, rfl⟩
 replace H : (if 0 ≤ (ji5) then (if (ji5) ≤ (a0.size : Int) then ((strings_Split.f (a0.extract 0 ((ji5) : Int).toNat) (⟨#[10]⟩ : ByteArray)).bind fun t102 => (if 0 < (t102.length : Int) then ((strings_CutPrefix.f (rdOf ByteArray.empty t102 0) (⟨#[97, 114, 99, 104, 105, 118, 101, 32]⟩ : ByteArray)).bind fun bt106 => ((ao_.f k bt106.1).bind fun bt108 => (if bt106.2 = true then (if bt108.2 = true then ((bg_.f bt108.1 0 32).bind fun t110 => (aa_.j0 k t102 bt108.1 (!t110))) else (aa_.j0 k t102 bt108.1 true)) else (aa_.j0 k t102 bt108.1 true)))) else (none))) else (none)) else (none)) = some (r1, r2, r3) := by first | (rw [hji5] at H; exact H) | (simp only [hji5] at H ⊢; exact H)
 have hji5w : (IntKind.i64.wrap ((a0.size : Int) - 1)) = ji5 := (i64_w _).trans hji5
 by_cases c6 : 0 ≤ (ji5)
 rotate_left
 ·rw [if_neg c6] at H
  exact absurd H (by simp)
 rw [if_pos c6] at H
 have c6b0 := eq_true c6
 have c6b1 : decide (0 ≤ (ji5)) = true := decide_eq_true c6
 clear c6
 by_cases c7 : (ji5) ≤ (a0.size : Int)
 rotate_left
 ·rw [if_neg c7] at H
  exact absurd H (by simp)
 rw [if_pos c7] at H
 have c7b0 := eq_true c7
 have c7b1 : decide ((ji5) ≤ (a0.size : Int)) = true := decide_eq_true c7
 clear c7
 replace H := Option.bind_eq_some_iff.mp H
 obtain ⟨t102, A80, H⟩ := H
 (try dsimp only at H)
 have A8 := Aside0.mk A80
 clear A80
 by_cases c9 : 0 < (t102.length : Int)
 rotate_left
 ·rw [if_neg c9] at H
  exact absurd H (by simp)
 rw [if_pos c9] at H
 have c9b0 : decide (0 < (t102.length : Int)) = true := decide_eq_true c9
 have c9b1 : decide (0 < t102.length) = true := decide_eq_true (by omega)
 clear c9
 (first | rw [c9b0] | (simp only [i64_w, i32_w]; rw [c9b0]) | (simp only [c9b1, Bool.not_true, Bool.not_false]) | (simp only [c9b0, Bool.not_true, Bool.not_false]) | skip)
 replace H := Option.bind_eq_some_iff.mp H
 obtain ⟨⟨t106, t107⟩, A100, H⟩ := H
 (try dsimp only at H)
 have A10 := Aside0.mk A100
 clear A100
 replace H := Option.bind_eq_some_iff.mp H
 obtain ⟨⟨t108, t109⟩, A110, H⟩ := H
 (try dsimp only at H)
 have A11 := Aside0.mk A110
 clear A110
 have HC12 := Aside0.mk H
 clear H
 go_upto_region 6 with (first | ((with_reducible refine as_ (f := 28) rfl ?_); refine aY_ (some 23) rfl rfl Tryd.func28 (by kernel_rfl) rfl #[.string (a0.extract 0 ((ji5) : Int).toNat), .string (⟨#[10]⟩ : ByteArray)] rfl (by (try simp only [List.map_toArray, List.map_cons, List.map_nil]); first | done | (simp only [hji5]; rfl) | rfl | (simp only [List.length_drop, List.length_take]; rfl)) ?_; (with_reducible refine (strings_Split.calls (a0.extract 0 ((ji5) : Int).toNat) (⟨#[10]⟩ : ByteArray) t102 _ ?side1 A8.out).mono ?_); (case side1 => exact bx_ HTab_.out (bz HB.out)); rintro e w13 ⟨v103, rfl, ho0, hb⟩; refine ⟨_, rfl, ?_⟩; have HO104 := Aside0.mk (Kd.bw_ ho0 (aw_ (bz HB.out))); replace HB := Aside0.mk (au_ (bz HB.out) hb); (try clear hb); (try clear ho0); obtain ⟨Ao14, co14, eo14⟩ := Kd.bc_ HO104.out; subst eo14; have p105 : 0 ≤ (0 : Int) := (by omega); have q105 : 0 < (t102.length : Int) := of_decide_eq_true (by assumption); obtain ⟨ad105, e105, hx105_0⟩ := Kd.bp_ (Kd.ay_ HO104.out).2.2 0 p105 q105; cases e105; have qi105 : (0 < t102.length) = True := eq_true (by omega); (try rw [show ((0 : Int)).toNat = 0 from rfl] at hx105_0); (try rw [Addr.add_zero'] at hx105_0); replace p105 := eq_true p105; replace q105 := eq_true q105) | ((with_reducible refine as_ (f := 33) rfl ?_); refine aY_ (some 28) rfl rfl Tryd.func33 (by kernel_rfl) rfl #[.string (rdOf ByteArray.empty t102 0), .string (⟨#[97, 114, 99, 104, 105, 118, 101, 32]⟩ : ByteArray)] rfl (by first | rfl | (simp only [List.map_toArray, List.map_cons, List.map_nil]; first | done | rfl)) ?_; (with_reducible refine (strings_CutPrefix.calls (rdOf ByteArray.empty t102 0) (⟨#[97, 114, 99, 104, 105, 118, 101, 32]⟩ : ByteArray) t106 t107 _ A10.out).mono ?_); rintro e w' ⟨rfl, ⟨nd, rfl⟩⟩; refine ⟨_, rfl, ?_⟩; (try (rw [bq_ w13]; generalize hq_ : World.drewN w13 _ = w13; have n0_ : Aside0 (Kd.R Kd.string 9 w13 w.heap.size (fun k_ => True) (.slice (some ad105) t102.length co14) t102) := ⟨by rw [← hq_]; exact (rz HO104.out)⟩; have n1_ : Aside0 (Below w.heap.size w w13) := ⟨by rw [← hq_]; exact (bz HB.out)⟩; clear HO104 HB hq_; have HO104 := n0_; have HB := n1_; clear n0_ n1_))) | ((with_reducible refine as_ (f := 34) rfl ?_); refine aY_ (some 33) rfl rfl Tryd.func34 (by kernel_rfl) rfl #[.string t106] rfl (by first | rfl | (simp only [List.map_toArray, List.map_cons, List.map_nil]; first | done | rfl)) ?_; (with_reducible refine (ao_.calls k t106 t108 t109 _ ?side1 A11.out).mono ?_); (case side1 => exact bx_ HTab_.out (bz HB.out)); rintro e w15 ⟨rfl, hb⟩; refine ⟨_, rfl, ?_⟩; replace HO104 := Aside0.mk (Kd.aZ_ (rz HO104.out) hb); replace HB := Aside0.mk (au_ (bz HB.out) hb); (try clear hb)))
 (try simp only [Act.put, lsa_, ls0_, ls1_])
 go_cut [46] (fun v46 wc => ∃ (kq : Nat) (x46_11 : Bool), v46 = .bool x46_11 ∧ Aside0 (aa_.j0 kq t102 t108 x46_11 = some (r1, r2, r3)) ∧ Aside0 (kq ≤ k) ∧ Aside0 (Kd.R Kd.string 9 wc w.heap.size (fun _ => True) (.slice (some ad105) t102.length co14) t102) ∧ Aside0 (Below w.heap.size w wc))
 case first =>
  have H := HC12.out
  clear HC12
  by_cases c16 : t107 = true
  rotate_left
  ·replace c16 := Bool.eq_false_iff.mpr c16
   subst c16
   have H1 : (aa_.j0 k t102 t108 true) = some (r1, r2, r3) := by rw [if_neg (show ¬ (false = true) by decide)] at H; exact H
   clear H
   have H := H1
   clear H1
   have H' := Aside0.mk H
   clear H
   go_wp2
   go_meet
   case rel => exact ⟨_, (true), (by first | rfl | (simp; done) | (simp [*]; done)), H', ⟨by first | omega | exact Nat.le_refl _⟩, ⟨rz HO104.out⟩, ⟨bz HB.out⟩⟩
  subst c16
  have H1 : (if t109 = true then ((bg_.f t108 0 32).bind fun t110 => (aa_.j0 k t102 t108 (!t110))) else (aa_.j0 k t102 t108 true)) = some (r1, r2, r3) := by rw [if_pos rfl] at H; exact H
  clear H
  have H := H1
  clear H1
  by_cases c17 : t109 = true
  rotate_left
  ·replace c17 := Bool.eq_false_iff.mpr c17
   subst c17
   have H1 : (aa_.j0 k t102 t108 true) = some (r1, r2, r3) := by rw [if_neg (show ¬ (false = true) by decide)] at H; exact H
   clear H
   have H := H1
   clear H1
   have H' := Aside0.mk H
   clear H
   go_wp2
   go_meet
   case rel => exact ⟨_, (true), (by first | rfl | (simp; done) | (simp [*]; done)), H', ⟨by first | omega | exact Nat.le_refl _⟩, ⟨rz HO104.out⟩, ⟨bz HB.out⟩⟩
  subst c17
  have H1 : ((bg_.f t108 0 32).bind fun t110 => (aa_.j0 k t102 t108 (!t110))) = some (r1, r2, r3) := by rw [if_pos rfl] at H; exact H
  clear H
  have H := H1
  clear H1
  replace H := Option.bind_eq_some_iff.mp H
  obtain ⟨t110, A180, H⟩ := H
  (try dsimp only at H)
  have A18 := Aside0.mk A180
  clear A180
  have H' := Aside0.mk H
  clear H
  go_wp2_with (first | (go_at_call 35; (with_reducible refine (bg_.calls t108 0 32 t110 _ A18.out).mono ?_); rintro e w' ⟨rfl, ⟨nd, rfl⟩⟩; (try (rw [bq_ w15]; generalize hq_ : World.drewN w15 _ = w15; have n0_ : Aside0 (Kd.R Kd.string 9 w15 w.heap.size (fun k_ => True) (.slice (some ad105) t102.length co14) t102) := ⟨by rw [← hq_]; exact (rz HO104.out)⟩; have n1_ : Aside0 (Below w.heap.size w w15) := ⟨by rw [← hq_]; exact (bz HB.out)⟩; clear HO104 HB hq_; have HO104 := n0_; have HB := n1_; clear n0_ n1_))))
  go_meet
  case rel => exact ⟨_, (!t110), (by first | rfl | (simp; done) | (simp [*]; done)), H', ⟨by first | omega | exact Nat.le_refl _⟩, ⟨rz HO104.out⟩, ⟨bz HB.out⟩⟩
 case rest =>
  clear HC12
  obtain ⟨kq, x46_11, rfl, HA, HJ11, HO_5, HB⟩ := hcut
  cases kq with
  | zero => exact absurd HA.out (by simp [aa_.j0])
  | succ kj11 =>
   have H := HA.out
   clear HA
   simp only [aa_.j0] at H
   by_cases c19 : x46_11 = true
   rotate_left
   ·replace c19 := Bool.eq_false_iff.mpr c19
    subst c19
    have H1 : (if 1 ≤ (t102.length : Int) then ((some (t102.drop 1 : List ByteArray)).bind fun y114 => (aa_.l0 kj11 t102 t108 (([] : List (S43))) y114 (y114.length : Int) 0)) else (none)) = some (r1, r2, r3) := by rw [if_neg (show ¬ (false = true) by decide)] at H; exact H
    clear H
    have H := H1
    clear H1
    obtain ⟨y111, hy111⟩ : ∃ y_ : List (S43), y_ = (([] : List (S43))) := ⟨_, rfl⟩
    replace H : (if 1 ≤ (t102.length : Int) then ((some (t102.drop 1 : List ByteArray)).bind fun y114 => (aa_.l0 kj11 t102 t108 y111 y114 (y114.length : Int) 0)) else (none)) = some (r1, r2, r3) := by first | (rw [hy111]; with_reducible exact H) | (have H2_ := (Option.bind_some _ _).symm.trans H; rw [hy111]; with_reducible exact H2_) | (have H2_ := (Option.bind_some _ _).symm.trans H; with_reducible exact H2_) | with_reducible exact H | (rw [hy111]; exact H) | exact H
    have Ny111 := Aside0.mk hy111
    clear hy111
    by_cases c20 : 1 ≤ (t102.length : Int)
    rotate_left
    ·rw [if_neg c20] at H
     exact absurd H (by simp)
    rw [if_pos c20] at H
    have c20b0 := eq_true c20
    have c20b1 : decide (1 ≤ (t102.length : Int)) = true := decide_eq_true c20
    clear c20
    obtain ⟨y114, hy114⟩ : ∃ y_ : List ByteArray, y_ = (t102.drop 1) := ⟨_, rfl⟩
    replace H : (aa_.l0 kj11 t102 t108 y111 y114 (y114.length : Int) 0) = some (r1, r2, r3) := by first | (rw [hy114]; with_reducible exact H) | (have H2_ := (Option.bind_some _ _).symm.trans H; rw [hy114]; with_reducible exact H2_) | (have H2_ := (Option.bind_some _ _).symm.trans H; with_reducible exact H2_) | with_reducible exact H | (rw [hy114]; exact H) | exact H
    have Ny114 := Aside0.mk hy114
    clear hy114
    have H' := Aside0.mk H
    clear H
    go_wp2_with (first | ((with_reducible refine bn_ (N := 47) rfl ?_); refine Kd.R_lit k43 _ 43 ?hg (N := 47) ?hd (xs := ([] : List (S43))) (inner := []) (ok := fun _ => True) (okp := fun _ => True) ?hr ?hp (fun _ hk => hk) trivial (Below.refl _ _) (Nat.le_refl _) (by simp) ?_; (case hd => rfl); (case hg => rfl); (case hr => (go_simp; try rfl)); (case hp => exact (Reps.none _ _)); intro v112 w21 ho22 hb hg_ hnew_; clear hg_ hnew_; (first | rw [← Ny111.out] at ho22 | (simp only [Int.reduceToNat] at ho22; rw [← Ny111.out] at ho22)); replace HO_5 := Aside0.mk (Kd.aZ_ (rz HO_5.out) hb); have HO113 := Aside0.mk (Kd.bw_ ho22 (aw_ (bz HB.out))); replace HB := Aside0.mk (au_ (bz HB.out) hb); clear hb ho22; have q23 : (1 : Int) ≤ ((t102.length : Int) : Int) := of_decide_eq_true (by assumption); obtain ⟨i023, hi023, _, hsz23, _⟩ := info_parts info9; have hroom23 : t102.length ≤ co14 := (Kd.ay_ HO_5.out).2.1; have hC23 : Kd.C Kd.string _ (some ad105) t102.length t102 := (Kd.ay_ HO_5.out).2.2; have hcut23 := cut_from (P := Tryd.prog) 39 9 .i64 Tryd.underlying39 hi023 1 hsz23 (some ad105) t102.length co14 1 (by omega) q23; have hr23 := Kd.C_drop (m := (1 : Int).toNat) (c := co14) hC23 (by omega) hroom23; obtain ⟨A23, hA23⟩ : ∃ A1, A1 = (if co14 = (1 : Int).toNat then (some ad105) else ((some ad105) : Option Addr).map (·.add ((1 : Int).toNat * 1))) := ⟨_, rfl⟩; obtain ⟨c23, hc23⟩ : ∃ c1, c1 = co14 - (1 : Int).toNat := ⟨_, rfl⟩; have hy23 : y114.length = t102.length - (1 : Int).toNat := (by rw [Ny114.out, List.length_drop] <;> omega); rw [show (t102).drop (1 : Int).toNat = y114 from Ny114.out.symm] at hr23; replace hr23 : Kd.C Kd.string _ A23 y114.length y114 := (by rw [hA23]; exact hr23); rw [← hy23, ← hA23, ← hc23] at hcut23; have HR117 := Aside0.mk hr23; have HC117 := Aside0.mk (show y114.length ≤ c23 from by rw [hy23, hc23]; exact Nat.sub_le_sub_right hroom23 _); clear hr23 hC23 hroom23 hi023 hsz23 hc23; have KY23 := Aside0.mk hy23; have KA23 := Aside0.mk hA23; clear hy23 hA23; have KL23 := Aside0.mk (show 1 ≤ t102.length from by omega); replace q23 := eq_true q23))
    (try simp only [Act.put, lsa_, ls0_, ls1_])
    go_loopg [10, 51] kj11 (fun kq v10 v51 w' => ∃ (x10_2 : List (S43)) (x51_2 : Int), v51 = .int .i64 x51_2 ∧ Aside0 (aa_.l0 kq t102 t108 x10_2 y114 (y114.length : Int) x51_2 = some (r1, r2, r3)) ∧ Aside0 (kq ≤ kj11) ∧ Aside0 (Kd.R Kd.string 9 w' w.heap.size (fun _ => True) (.slice (some ad105) t102.length co14) t102) ∧ Aside0 (Kd.R k43 43 w' w.heap.size (fun _ => True) v10 x10_2) ∧ Aside0 (Kd.C Kd.string w' A23 y114.length y114) ∧ Aside0 (Below w.heap.size w w'))
    case atStart => exact ⟨(y111), (0), (by first | rfl | (simp; done) | (simp [*]; done)), H', ⟨Nat.le_refl _⟩, ⟨rz HO_5.out⟩, ⟨rz HO113.out⟩, ⟨by repeat (first | (with_reducible exact HR117.out) | (with_reducible first | refine Kd.C_alloc ?_ _ | refine Kd.C_drewN ?_ _ | refine Kd.C_drew ?_) | exact HR117.out)⟩, ⟨bz HB.out⟩⟩
    case round =>
     clear H'
     obtain ⟨x10_2, x51_2, rfl, HA, HK2, HO_5, HO_10, HR117, HB⟩ := hrel
     cases gk with
     | zero => exact absurd HA.out (by simp [aa_.l0])
     | succ k2 =>
      have H := HA.out
      clear HA
      simp only [aa_.l0] at H
      by_cases c24 : x51_2 < (y114.length : Int)
      rotate_left
      ·rw [if_neg c24] at H
       have c24b0 : decide (x51_2 < (y114.length : Int)) = false := decide_eq_false c24
       clear c24
       by_cases c51 : (x10_2.length : Int) = t108
       rotate_left
       ·rw [if_neg c51] at H
        have c51b0 : ((x10_2.length : Int) == t108) = false := beq_eq_false_iff_ne.mpr c51
        have c51b1 : ((x10_2.length : Int) != t108) = true := bne_iff_ne.mpr c51
        simp only [Option.some.injEq, Prod.mk.injEq] at H
        obtain ⟨rfl, rfl, rfl⟩ := H
        obtain ⟨Ao53, co53, eo53⟩ := Kd.bc_ HO_10.out
        subst eo53
        go_wp2
        go_ret3
        exact ⟨_, by first | rfl | (simp [ap_, aq_] <;> rfl) | (simp only [← hji5]; first | rfl | (simp [ap_, aq_] <;> rfl)) | (simp [*, ap_, aq_] <;> rfl), by first | exact Kd.R_nil _ _ _ _ _ | exact Kd.N_nil _ _ _ _ _ | exact Kd.V_nil _ _ _ _ _ | exact Kd.Q_nil _ _ _ _ _ | exact Kd.S_nil _ _ _ _ _, bz HB.out⟩
       rw [if_pos c51] at H
       have c51b0 : ((x10_2.length : Int) == t108) = true := beq_iff_eq.mpr c51
       have c51b1 : ((x10_2.length : Int) != t108) = false := bne_eq_false_iff_eq.mpr c51
       clear c51
       simp only [Option.some.injEq, Prod.mk.injEq] at H
       obtain ⟨rfl, rfl, rfl⟩ := H
       obtain ⟨Ao52, co52, eo52⟩ := Kd.bc_ HO_10.out
       subst eo52
       go_wp2
       go_ret3
       exact ⟨_, by first | rfl | (simp [ap_, aq_] <;> rfl) | (simp only [← hji5]; first | rfl | (simp [ap_, aq_] <;> rfl)) | (simp [*, ap_, aq_] <;> rfl), rz HO_10.out, bz HB.out⟩
      rw [if_pos c24] at H
      have c24b0 : decide (x51_2 < (y114.length : Int)) = true := decide_eq_true c24
      clear c24
      by_cases c25 : 0 ≤ x51_2
      rotate_left
      ·rw [if_neg c25] at H
       exact absurd H (by simp)
      rw [if_pos c25] at H
      have c25b0 : decide (0 ≤ x51_2) = true := decide_eq_true c25
      clear c25
      by_cases c26 : x51_2 < (y114.length : Int)
      rotate_left
      ·rw [if_neg c26] at H
       exact absurd H (by simp)
      rw [if_pos c26] at H
      have c26b0 : decide (x51_2 < (y114.length : Int)) = true := decide_eq_true c26
      clear c26
      replace H := Option.bind_eq_some_iff.mp H
      obtain ⟨⟨t119, t120, t121, t122⟩, A270, H⟩ := H
      (try dsimp only at H)
      have A27 := Aside0.mk A270
      clear A270
      have HC28 := Aside0.mk H
      clear H
      have p118 : 0 ≤ (x51_2 : Int) := of_decide_eq_true (by assumption)
      have q118 : x51_2 < (y114.length : Int) := of_decide_eq_true (by assumption)
      obtain ⟨ad118, e118, hx118_0⟩ := Kd.bp_ (by repeat (first | (with_reducible exact HR117.out) | (with_reducible first | refine Kd.C_alloc ?_ _ | refine Kd.C_drewN ?_ _ | refine Kd.C_drew ?_) | exact HR117.out)) x51_2 p118 q118
      cases e118
      replace p118 := eq_true p118
      replace q118 := eq_true q118
      go_upto_region 13 with (first | ((with_reducible refine as_ (f := 29) rfl ?_); refine aY_ (some 58) rfl rfl Tryd.func29 (by kernel_rfl) rfl #[.string (rdOf ByteArray.empty y114 x51_2)] rfl (by first | rfl | (simp only [List.map_toArray, List.map_cons, List.map_nil]; first | done | rfl)) ?_; (with_reducible refine (av_.calls k2 (rdOf ByteArray.empty y114 x51_2) t119 t120 t121 t122 _ ?side1 A27.out).mono ?_); (case side1 => exact bx_ HTab_.out (bz HB.out)); rintro e w29 ⟨rfl, hb⟩; refine ⟨_, rfl, ?_⟩; replace HO_5 := Aside0.mk (Kd.aZ_ (rz HO_5.out) hb); replace HO_10 := Aside0.mk (Kd.aZ_ (rz HO_10.out) hb); replace HR117 := Aside0.mk (Kd.C_below (by repeat (first | (with_reducible exact HR117.out) | (with_reducible first | refine Kd.C_alloc ?_ _ | refine Kd.C_drewN ?_ _ | refine Kd.C_drew ?_) | exact HR117.out)) hb); replace HB := Aside0.mk (au_ (bz HB.out) hb); (try clear hb)) | ((with_reducible refine bn_ (N := 13) rfl ?_); refine bs_ ?hg (N := 13) ?hd (cs := #[.string (⟨#[]⟩ : ByteArray), .string (⟨#[]⟩ : ByteArray), .string (⟨#[]⟩ : ByteArray)]) (t := 43) ?hr ?_; (case hd => rfl); (case hg => rfl); (case hr => (go_simp; try rfl)); intro gb123 hg w30 hbox hb; replace HO_5 := Aside0.mk (Kd.aZ_ (rz HO_5.out) hb); replace HO_10 := Aside0.mk (Kd.aZ_ (Kd.R_elderB (rz HO_10.out) gb123 (Nat.le_of_eq hg.symm)) hb); replace HR117 := Aside0.mk (Kd.C_below (by repeat (first | (with_reducible exact HR117.out) | (with_reducible first | refine Kd.C_alloc ?_ _ | refine Kd.C_drewN ?_ _ | refine Kd.C_drew ?_) | exact HR117.out)) hb); have BK123 := Aside0.mk (hbox); have GW123 := Aside0.mk ((by rw [hg]; exact (aw_ (bz HB.out)) : w.heap.size ≤ gb123)); have GE123 := Aside0.mk ((by rw [hg]; exact (aw_ (bz HB.out)) : w.heap.size ≤ gb123)); replace HB := Aside0.mk (au_ (bz HB.out) hb); clear hb hbox hg; have hcz31_0 : w30.cell? ⟨gb123, 0, none⟩ = some (.string (⟨#[]⟩ : ByteArray)) := (ai_ BK123.out 0).trans rfl; have hcz31_1 : w30.cell? ⟨gb123, 1, none⟩ = some (.string (⟨#[]⟩ : ByteArray)) := (ai_ BK123.out 1).trans rfl; have hcz31_2 : w30.cell? ⟨gb123, 2, none⟩ = some (.string (⟨#[]⟩ : ByteArray)) := (ai_ BK123.out 2).trans rfl; have hfz31_0 := ab_ BK123.out 0; have hfz31_1 := ab_ BK123.out 1; have hfz31_2 := ab_ BK123.out 2))
      (try simp only [Act.put, lsa_, ls0_, ls1_])
      go_cut [76] (fun v76 wc => ∃ (kq : Nat) (x76_27 : Bool), v76 = .bool x76_27 ∧ Aside0 (aa_.j2 kq t102 t108 x10_2 x51_2 t122 y114 (y114.length : Int) x51_2 x76_27 t119 t120 t121 = some (r1, r2, r3)) ∧ Aside0 (kq ≤ k2) ∧ Aside0 (Kd.R Kd.string 9 wc w.heap.size (fun _ => True) (.slice (some ad105) t102.length co14) t102) ∧ Aside0 (Kd.R k43 43 wc w.heap.size (fun k_ => k_ ≠ gb123) u10 x10_2) ∧ Aside0 (wc.heap[gb123]? = some (.cells #[.string t119, .string t120, .string t121] 43 (0, 0))) ∧ Aside0 (Kd.C Kd.string wc (some ad118) y114.length y114) ∧ Aside0 (Below w.heap.size w wc))
      case first =>
       have H := HC28.out
       clear HC28
       by_cases c32 : t122 = 0
       rotate_left
       ·rw [if_neg c32] at H
        have c32b0 : (t122 == 0) = false := beq_eq_false_iff_ne.mpr c32
        have c32b1 : (t122 != 0) = true := bne_iff_ne.mpr c32
        (first | rw [c32b0] | (simp only [i64_w, i32_w]; rw [c32b0]) | (simp only [c32b1, Bool.not_true, Bool.not_false]) | (simp only [c32b0, Bool.not_true, Bool.not_false]) | skip)
        have H' := Aside0.mk H
        clear H
        try go_wp2
        have n0_ : Aside0 (Kd.R Kd.string 9 (((w30.setCell ⟨gb123, 0, none⟩ (.string t119)).setCell ⟨gb123, 1, none⟩ (.string t120)).setCell ⟨gb123, 2, none⟩ (.string t121)) w.heap.size (fun _ => True) (.slice (some ad105) t102.length co14) t102) := ⟨rz (Kd.ba_ (Kd.R_far (p := ⟨gb123, 2, none⟩) (Kd.R_far (p := ⟨gb123, 1, none⟩) (Kd.R_far (p := ⟨gb123, 0, none⟩) (Kd.R_types HO_5.out BK123.out (by decide)) (fun _ hk => hk.2) (.string t119)) (fun _ hk => hk.2) (.string t120)) (fun _ hk => hk.2) (.string t121)) (fun _ hk => trivial))⟩
        have n1_ : Aside0 (Kd.R k43 43 (((w30.setCell ⟨gb123, 0, none⟩ (.string t119)).setCell ⟨gb123, 1, none⟩ (.string t120)).setCell ⟨gb123, 2, none⟩ (.string t121)) w.heap.size (fun k_ => k_ ≠ gb123) u10 x10_2) := ⟨rz (Kd.ba_ (Kd.R_far (p := ⟨gb123, 2, none⟩) (Kd.R_far (p := ⟨gb123, 1, none⟩) (Kd.R_far (p := ⟨gb123, 0, none⟩) (Kd.ba_ HO_10.out (fun k_ hk => (⟨hk, hk.2⟩ : _ ∧ k_ ≠ gb123))) (fun _ hk => hk.2) (.string t119)) (fun _ hk => hk.2) (.string t120)) (fun _ hk => hk.2) (.string t121)) (fun _ hk => hk.1.2))⟩
        have n2_ : Aside0 ((((w30.setCell ⟨gb123, 0, none⟩ (.string t119)).setCell ⟨gb123, 1, none⟩ (.string t120)).setCell ⟨gb123, 2, none⟩ (.string t121)).heap[gb123]? = some (.cells #[.string t119, .string t120, .string t121] 43 (0, 0))) := ⟨by (with_reducible repeat (first | refine ae_ ?_ _ | refine am_ ?_ | refine af_ ?_ _)); refine aI_ (cs := #[.string t119, .string t120, .string (⟨#[]⟩ : ByteArray)]) ?_ 2 _ rfl; (with_reducible repeat (first | refine ae_ ?_ _ | refine am_ ?_ | refine af_ ?_ _)); refine aI_ (cs := #[.string t119, .string (⟨#[]⟩ : ByteArray), .string (⟨#[]⟩ : ByteArray)]) ?_ 1 _ rfl; (with_reducible repeat (first | refine ae_ ?_ _ | refine am_ ?_ | refine af_ ?_ _)); refine aI_ (cs := #[.string (⟨#[]⟩ : ByteArray), .string (⟨#[]⟩ : ByteArray), .string (⟨#[]⟩ : ByteArray)]) ?_ 0 _ rfl; (with_reducible repeat (first | refine ae_ ?_ _ | refine am_ ?_ | refine af_ ?_ _)); exact BK123.out⟩
        have n3_ : Aside0 (Below w.heap.size w (((w30.setCell ⟨gb123, 0, none⟩ (.string t119)).setCell ⟨gb123, 1, none⟩ (.string t120)).setCell ⟨gb123, 2, none⟩ (.string t121))) := ⟨by repeat (first | (with_reducible first | exact HB.out | apply bA_ | apply bN_ | apply bD_ | refine al_ ?_ GE123.out) | exact HB.out)⟩
        (try clear HO_5)
        (try clear HO_10)
        (try clear BK123)
        (try clear HB)
        generalize (((w30.setCell ⟨gb123, 0, none⟩ (.string t119)).setCell ⟨gb123, 1, none⟩ (.string t120)).setCell ⟨gb123, 2, none⟩ (.string t121)) = w44 at n0_ n1_ n2_ n3_ ⊢
        have HO_5 := n0_
        have HO_10 := n1_
        have BK123 := n2_
        have HB := n3_
        clear n0_ n1_ n2_ n3_
        (try (rw [bq_ w44]; generalize hq_ : World.drewN w44 _ = w44; have n0_ : Aside0 (Kd.R k43 43 w44 w.heap.size (fun k_ => k_ ≠ gb123) u10 x10_2) := ⟨by rw [← hq_]; exact (rz HO_10.out)⟩; have n1_ : Aside0 (Kd.R Kd.string 9 w44 w.heap.size (fun k_ => True) (.slice (some ad105) t102.length co14) t102) := ⟨by rw [← hq_]; exact (rz HO_5.out)⟩; have n2_ : Aside0 (w44.heap[gb123]? = some (.cells #[.string t119, .string t120, .string t121] 43 (0, 0))) := ⟨by rw [← hq_]; exact (kz BK123.out)⟩; have n3_ : Aside0 (Below w.heap.size w w44) := ⟨by rw [← hq_]; exact (by repeat (first | (with_reducible first | exact HB.out | apply bA_ | apply bN_ | apply bD_ | refine al_ ?_ GE123.out) | exact HB.out))⟩; clear HO_10 HO_5 BK123 HB hq_; have HO_10 := n0_; have HO_5 := n1_; have BK123 := n2_; have HB := n3_; clear n0_ n1_ n2_ n3_))
        have n0_ := Aside0.mk (Kd.R_drew HO_5.out)
        have n1_ := Aside0.mk (Kd.R_drew HO_10.out)
        have n2_ := Aside0.mk (am_ BK123.out)
        have n3_ := Aside0.mk (bD_ HB.out)
        clear HO_5
        clear HO_10
        clear BK123
        clear HB
        have HO_5 := n0_
        have HO_10 := n1_
        have BK123 := n2_
        have HB := n3_
        clear n0_ n1_ n2_ n3_
        refine start_ (n := 16) (S := fun w' => True) (ds := []) #[f_,f_,f_,f_,f_,f_,f_,f_,f_,f_,f_,f_,f_,f_,f_,f_] (by kernel_rfl) rfl rfl trivial (fun hHeld => ?_); refine bE_ aa_.tab13 aa_.bits13 (fun HT_ HW_ => ?_)
        generalize w44.drew = w45 at HO_5 HO_10 BK123 HB hHeld ⊢
        refine pure_ (i := 0) (N := some 61) (v := ?_) (a' := ?_) #[t_,f_,f_,f_,f_,f_,f_,f_,f_,f_,f_,f_,f_,f_,f_,f_] rfl rfl (aD_ HT_.out (by kernel_rfl)) (fun _ _ _ h => h) (Or.inl ⟨by rfl, ?_⟩) ?_ ?_
        rotate_left
        ·intro w'
         go_simp
         with_reducible rfl
        rotate_left
        ·simp only [Act.put, lsa_, ls0_, ls1_, i64_w, i32_w]
         rfl
        refine pure_ (i := 1) (N := some 62) (v := ?_) (a' := ?_) #[t_,t_,f_,f_,f_,f_,f_,f_,f_,f_,f_,f_,f_,f_,f_,f_] rfl rfl (aD_ HT_.out (by kernel_rfl)) (fun _ _ _ h => h) (Or.inl ⟨by rfl, ?_⟩) ?_ ?_
        rotate_left
        ·intro w'
         go_simp
         with_reducible rfl
        rotate_left
        ·simp only [Act.put, lsa_, ls0_, ls1_, i64_w, i32_w]
         rfl
        refine pure_ (i := 2) (N := some 63) (v := ?_) (a' := ?_) #[t_,t_,t_,f_,f_,f_,f_,f_,f_,f_,f_,f_,f_,f_,f_,f_] rfl rfl (aD_ HT_.out (by kernel_rfl)) (fun _ _ _ h => h) (Or.inl ⟨by rfl, ?_⟩) ?_ ?_
        rotate_left
        ·intro w'
         go_simp
         with_reducible rfl
        rotate_left
        ·simp only [Act.put, lsa_, ls0_, ls1_, i64_w, i32_w]
         rfl
        refine pure_ (i := 3) (N := some 64) (v := undef) (a' := ?_) #[t_,t_,t_,t_,f_,f_,f_,f_,f_,f_,f_,f_,f_,f_,f_,f_] rfl rfl (aD_ HT_.out (by kernel_rfl)) (fun _ _ _ h => h) (Or.inr ⟨by rfl, rfl⟩) ?_ ?_
        rotate_left
        ·simp only [Act.put, lsa_, ls0_, ls1_, i64_w, i32_w]
         rfl
        refine pure_ (i := 4) (N := some 65) (v := undef) (a' := ?_) #[t_,t_,t_,t_,t_,f_,f_,f_,f_,f_,f_,f_,f_,f_,f_,f_] rfl rfl (aD_ HT_.out (by kernel_rfl)) (fun _ _ _ h => h) (Or.inr ⟨by rfl, rfl⟩) ?_ ?_
        rotate_left
        ·simp only [Act.put, lsa_, ls0_, ls1_, i64_w, i32_w]
         rfl
        refine pure_ (i := 5) (N := some 66) (v := ?_) (a' := ?_) #[t_,t_,t_,t_,t_,t_,f_,f_,f_,f_,f_,f_,f_,f_,f_,f_] rfl rfl (aD_ HT_.out (by kernel_rfl)) (fun _ _ _ h => h) (Or.inl ⟨by rfl, ?_⟩) ?_ ?_
        rotate_left
        ·intro w'
         go_simp
         with_reducible rfl
        rotate_left
        ·simp only [Act.put, lsa_, ls0_, ls1_, i64_w, i32_w]
         rfl
        refine pure_ (i := 6) (N := some 67) (v := ?_) (a' := ?_) #[t_,t_,t_,t_,t_,t_,t_,f_,f_,f_,f_,f_,f_,f_,f_,f_] rfl rfl (aD_ HT_.out (by kernel_rfl)) (fun _ _ _ h => h) (Or.inl ⟨by rfl, ?_⟩) ?_ ?_
        rotate_left
        ·intro w'
         go_simp
         with_reducible rfl
        rotate_left
        ·simp only [Act.put, lsa_, ls0_, ls1_, i64_w, i32_w]
         rfl
        refine pure_ (i := 7) (N := some 68) (v := undef) (a' := ?_) #[t_,t_,t_,t_,t_,t_,t_,t_,f_,f_,f_,f_,f_,f_,f_,f_] rfl rfl (aD_ HT_.out (by kernel_rfl)) (fun _ _ _ h => h) (Or.inr ⟨by rfl, rfl⟩) ?_ ?_
        rotate_left
        ·simp only [Act.put, lsa_, ls0_, ls1_, i64_w, i32_w]
         rfl
        refine pure_ (i := 8) (N := some 69) (v := undef) (a' := ?_) #[t_,t_,t_,t_,t_,t_,t_,t_,t_,f_,f_,f_,f_,f_,f_,f_] rfl rfl (aD_ HT_.out (by kernel_rfl)) (fun _ _ _ h => h) (Or.inr ⟨by rfl, rfl⟩) ?_ ?_
        rotate_left
        ·simp only [Act.put, lsa_, ls0_, ls1_, i64_w, i32_w]
         rfl
        refine pure_ (i := 9) (N := some 70) (v := undef) (a' := ?_) #[t_,t_,t_,t_,t_,t_,t_,t_,t_,t_,f_,f_,f_,f_,f_,f_] rfl rfl (aD_ HT_.out (by kernel_rfl)) (fun _ _ _ h => h) (Or.inr ⟨by rfl, rfl⟩) ?_ ?_
        rotate_left
        ·simp only [Act.put, lsa_, ls0_, ls1_, i64_w, i32_w]
         rfl
        refine pure_ (i := 10) (N := some 71) (v := undef) (a' := ?_) #[t_,t_,t_,t_,t_,t_,t_,t_,t_,t_,t_,f_,f_,f_,f_,f_] rfl rfl (aD_ HT_.out (by kernel_rfl)) (fun _ _ _ h => h) (Or.inr ⟨by rfl, rfl⟩) ?_ ?_
        rotate_left
        ·simp only [Act.put, lsa_, ls0_, ls1_, i64_w, i32_w]
         rfl
        refine pure_ (i := 11) (N := some 72) (v := undef) (a' := ?_) #[t_,t_,t_,t_,t_,t_,t_,t_,t_,t_,t_,t_,f_,f_,f_,f_] rfl rfl (aD_ HT_.out (by kernel_rfl)) (fun _ _ _ h => h) (Or.inr ⟨by rfl, rfl⟩) ?_ ?_
        rotate_left
        ·simp only [Act.put, lsa_, ls0_, ls1_, i64_w, i32_w]
         rfl
        refine pure_ (i := 12) (N := some 73) (v := undef) (a' := ?_) #[t_,t_,t_,t_,t_,t_,t_,t_,t_,t_,t_,t_,t_,f_,f_,f_] rfl rfl (aD_ HT_.out (by kernel_rfl)) (fun _ _ _ h => h) (Or.inr ⟨by rfl, rfl⟩) ?_ ?_
        rotate_left
        ·simp only [Act.put, lsa_, ls0_, ls1_, i64_w, i32_w]
         rfl
        refine pure_ (i := 13) (N := some 74) (v := undef) (a' := ?_) #[t_,t_,t_,t_,t_,t_,t_,t_,t_,t_,t_,t_,t_,t_,f_,f_] rfl rfl (aD_ HT_.out (by kernel_rfl)) (fun _ _ _ h => h) (Or.inr ⟨by rfl, rfl⟩) ?_ ?_
        rotate_left
        ·simp only [Act.put, lsa_, ls0_, ls1_, i64_w, i32_w]
         rfl
        refine pure_ (i := 14) (N := some 75) (v := undef) (a' := ?_) #[t_,t_,t_,t_,t_,t_,t_,t_,t_,t_,t_,t_,t_,t_,t_,f_] rfl rfl (aD_ HT_.out (by kernel_rfl)) (fun _ _ _ h => h) (Or.inr ⟨by rfl, rfl⟩) ?_ ?_
        rotate_left
        ·simp only [Act.put, lsa_, ls0_, ls1_, i64_w, i32_w]
         rfl
        refine pure_ (i := 15) (N := some 76) (v := ?_) (a' := ?_) #[t_,t_,t_,t_,t_,t_,t_,t_,t_,t_,t_,t_,t_,t_,t_,t_] rfl rfl (aD_ HT_.out (by kernel_rfl)) (fun _ _ _ h => h) (Or.inl ⟨by rfl, ?_⟩) ?_ ?_
        rotate_left
        ·intro w'
         go_simp
         with_reducible rfl
        rotate_left
        ·simp only [Act.put, lsa_, ls0_, ls1_, i64_w, i32_w]
         rfl
        refine done_ (done_of HT_.out (by kernel_rfl)) ?_
        try go_wp2
        go_meet
        case rel => exact ⟨_, (false), (by first | rfl | (simp; done) | (simp [*]; done)), H', ⟨by have := HJ11.out; have := HK2.out; first | omega | exact Nat.le_refl _⟩, ⟨rz HO_5.out⟩, ⟨rz HO_10.out⟩, ⟨by (with_reducible repeat (first | refine ae_ ?_ _ | refine am_ ?_ | refine af_ ?_ _)); exact BK123.out⟩, ⟨by rw [Ny114.out, KA23.out]; exact Kd.C_drop (m := 1) (c := co14) ((Kd.ay_ (rz HO_5.out)).2.2) KL23.out ((Kd.ay_ HO_5.out).2.1)⟩, ⟨by repeat (first | (with_reducible first | exact HB.out | apply bA_ | apply bN_ | apply bD_ | refine al_ ?_ GE123.out) | exact HB.out)⟩⟩
       rw [if_pos c32] at H
       have c32b0 : (t122 == 0) = true := beq_iff_eq.mpr c32
       have c32b1 : (t122 != 0) = false := bne_eq_false_iff_eq.mpr c32
       clear c32
       (first | rw [c32b0] | (simp only [i64_w, i32_w]; rw [c32b0]) | (simp only [c32b1, Bool.not_true, Bool.not_false]) | (simp only [c32b0, Bool.not_true, Bool.not_false]) | skip)
       by_cases c33 : x51_2 > 0
       rotate_left
       ·rw [if_neg c33] at H
        have c33b0 : decide (0 < x51_2) = false := decide_eq_false c33
        clear c33
        have H' := Aside0.mk H
        clear H
        try go_wp2
        have n0_ : Aside0 (Kd.R Kd.string 9 (((w30.setCell ⟨gb123, 0, none⟩ (.string t119)).setCell ⟨gb123, 1, none⟩ (.string t120)).setCell ⟨gb123, 2, none⟩ (.string t121)) w.heap.size (fun _ => True) (.slice (some ad105) t102.length co14) t102) := ⟨rz (Kd.ba_ (Kd.R_far (p := ⟨gb123, 2, none⟩) (Kd.R_far (p := ⟨gb123, 1, none⟩) (Kd.R_far (p := ⟨gb123, 0, none⟩) (Kd.R_types HO_5.out BK123.out (by decide)) (fun _ hk => hk.2) (.string t119)) (fun _ hk => hk.2) (.string t120)) (fun _ hk => hk.2) (.string t121)) (fun _ hk => trivial))⟩
        have n1_ : Aside0 (Kd.R k43 43 (((w30.setCell ⟨gb123, 0, none⟩ (.string t119)).setCell ⟨gb123, 1, none⟩ (.string t120)).setCell ⟨gb123, 2, none⟩ (.string t121)) w.heap.size (fun k_ => k_ ≠ gb123) u10 x10_2) := ⟨rz (Kd.ba_ (Kd.R_far (p := ⟨gb123, 2, none⟩) (Kd.R_far (p := ⟨gb123, 1, none⟩) (Kd.R_far (p := ⟨gb123, 0, none⟩) (Kd.ba_ HO_10.out (fun k_ hk => (⟨hk, hk.2⟩ : _ ∧ k_ ≠ gb123))) (fun _ hk => hk.2) (.string t119)) (fun _ hk => hk.2) (.string t120)) (fun _ hk => hk.2) (.string t121)) (fun _ hk => hk.1.2))⟩
        have n2_ : Aside0 ((((w30.setCell ⟨gb123, 0, none⟩ (.string t119)).setCell ⟨gb123, 1, none⟩ (.string t120)).setCell ⟨gb123, 2, none⟩ (.string t121)).heap[gb123]? = some (.cells #[.string t119, .string t120, .string t121] 43 (0, 0))) := ⟨by (with_reducible repeat (first | refine ae_ ?_ _ | refine am_ ?_ | refine af_ ?_ _)); refine aI_ (cs := #[.string t119, .string t120, .string (⟨#[]⟩ : ByteArray)]) ?_ 2 _ rfl; (with_reducible repeat (first | refine ae_ ?_ _ | refine am_ ?_ | refine af_ ?_ _)); refine aI_ (cs := #[.string t119, .string (⟨#[]⟩ : ByteArray), .string (⟨#[]⟩ : ByteArray)]) ?_ 1 _ rfl; (with_reducible repeat (first | refine ae_ ?_ _ | refine am_ ?_ | refine af_ ?_ _)); refine aI_ (cs := #[.string (⟨#[]⟩ : ByteArray), .string (⟨#[]⟩ : ByteArray), .string (⟨#[]⟩ : ByteArray)]) ?_ 0 _ rfl; (with_reducible repeat (first | refine ae_ ?_ _ | refine am_ ?_ | refine af_ ?_ _)); exact BK123.out⟩
        have n3_ : Aside0 (Below w.heap.size w (((w30.setCell ⟨gb123, 0, none⟩ (.string t119)).setCell ⟨gb123, 1, none⟩ (.string t120)).setCell ⟨gb123, 2, none⟩ (.string t121))) := ⟨by repeat (first | (with_reducible first | exact HB.out | apply bA_ | apply bN_ | apply bD_ | refine al_ ?_ GE123.out) | exact HB.out)⟩
        (try clear HO_5)
        (try clear HO_10)
        (try clear BK123)
        (try clear HB)
        generalize (((w30.setCell ⟨gb123, 0, none⟩ (.string t119)).setCell ⟨gb123, 1, none⟩ (.string t120)).setCell ⟨gb123, 2, none⟩ (.string t121)) = w42 at n0_ n1_ n2_ n3_ ⊢
        have HO_5 := n0_
        have HO_10 := n1_
        have BK123 := n2_
        have HB := n3_
        clear n0_ n1_ n2_ n3_
        (try (rw [bq_ w42]; generalize hq_ : World.drewN w42 _ = w42; have n0_ : Aside0 (Kd.R k43 43 w42 w.heap.size (fun k_ => k_ ≠ gb123) u10 x10_2) := ⟨by rw [← hq_]; exact (rz HO_10.out)⟩; have n1_ : Aside0 (Kd.R Kd.string 9 w42 w.heap.size (fun k_ => True) (.slice (some ad105) t102.length co14) t102) := ⟨by rw [← hq_]; exact (rz HO_5.out)⟩; have n2_ : Aside0 (w42.heap[gb123]? = some (.cells #[.string t119, .string t120, .string t121] 43 (0, 0))) := ⟨by rw [← hq_]; exact (kz BK123.out)⟩; have n3_ : Aside0 (Below w.heap.size w w42) := ⟨by rw [← hq_]; exact (by repeat (first | (with_reducible first | exact HB.out | apply bA_ | apply bN_ | apply bD_ | refine al_ ?_ GE123.out) | exact HB.out))⟩; clear HO_10 HO_5 BK123 HB hq_; have HO_10 := n0_; have HO_5 := n1_; have BK123 := n2_; have HB := n3_; clear n0_ n1_ n2_ n3_))
        have n0_ := Aside0.mk (Kd.R_drew HO_5.out)
        have n1_ := Aside0.mk (Kd.R_drew HO_10.out)
        have n2_ := Aside0.mk (am_ BK123.out)
        have n3_ := Aside0.mk (bD_ HB.out)
        clear HO_5
        clear HO_10
        clear BK123
        clear HB
        have HO_5 := n0_
        have HO_10 := n1_
        have BK123 := n2_
        have HB := n3_
        clear n0_ n1_ n2_ n3_
        refine start_ (n := 16) (S := fun w' => True) (ds := []) #[f_,f_,f_,f_,f_,f_,f_,f_,f_,f_,f_,f_,f_,f_,f_,f_] (by kernel_rfl) rfl rfl trivial (fun hHeld => ?_); refine bE_ aa_.tab13 aa_.bits13 (fun HT_ HW_ => ?_)
        generalize w42.drew = w43 at HO_5 HO_10 BK123 HB hHeld ⊢
        refine pure_ (i := 0) (N := some 61) (v := ?_) (a' := ?_) #[t_,f_,f_,f_,f_,f_,f_,f_,f_,f_,f_,f_,f_,f_,f_,f_] rfl rfl (aD_ HT_.out (by kernel_rfl)) (fun _ _ _ h => h) (Or.inl ⟨by rfl, ?_⟩) ?_ ?_
        rotate_left
        ·intro w'
         go_simp
         with_reducible rfl
        rotate_left
        ·simp only [Act.put, lsa_, ls0_, ls1_, i64_w, i32_w]
         rfl
        refine pure_ (i := 1) (N := some 62) (v := ?_) (a' := ?_) #[t_,t_,f_,f_,f_,f_,f_,f_,f_,f_,f_,f_,f_,f_,f_,f_] rfl rfl (aD_ HT_.out (by kernel_rfl)) (fun _ _ _ h => h) (Or.inl ⟨by rfl, ?_⟩) ?_ ?_
        rotate_left
        ·intro w'
         go_simp
         with_reducible rfl
        rotate_left
        ·simp only [Act.put, lsa_, ls0_, ls1_, i64_w, i32_w]
         rfl
        refine pure_ (i := 2) (N := some 63) (v := ?_) (a' := ?_) #[t_,t_,t_,f_,f_,f_,f_,f_,f_,f_,f_,f_,f_,f_,f_,f_] rfl rfl (aD_ HT_.out (by kernel_rfl)) (fun _ _ _ h => h) (Or.inl ⟨by rfl, ?_⟩) ?_ ?_
        rotate_left
        ·intro w'
         go_simp
         with_reducible rfl
        rotate_left
        ·simp only [Act.put, lsa_, ls0_, ls1_, i64_w, i32_w]
         rfl
        refine pure_ (i := 3) (N := some 64) (v := ?_) (a' := ?_) #[t_,t_,t_,t_,f_,f_,f_,f_,f_,f_,f_,f_,f_,f_,f_,f_] rfl rfl (aD_ HT_.out (by kernel_rfl)) (fun _ _ _ h => h) (Or.inl ⟨by rfl, ?_⟩) ?_ ?_
        rotate_left
        ·intro w'
         go_simp
         with_reducible rfl
        rotate_left
        ·simp only [Act.put, lsa_, ls0_, ls1_, i64_w, i32_w]
         rfl
        refine pure_ (i := 4) (N := some 65) (v := ?_) (a' := ?_) #[t_,t_,t_,t_,t_,f_,f_,f_,f_,f_,f_,f_,f_,f_,f_,f_] rfl rfl (aD_ HT_.out (by kernel_rfl)) (fun _ _ _ h => h) (Or.inl ⟨by rfl, ?_⟩) ?_ ?_
        rotate_left
        ·intro w'
         go_simp
         with_reducible rfl
        rotate_left
        ·simp only [Act.put, lsa_, ls0_, ls1_, i64_w, i32_w]
         rfl
        refine pure_ (i := 5) (N := some 66) (v := ?_) (a' := ?_) #[t_,t_,t_,t_,t_,t_,f_,f_,f_,f_,f_,f_,f_,f_,f_,f_] rfl rfl (aD_ HT_.out (by kernel_rfl)) (fun _ _ _ h => h) (Or.inl ⟨by rfl, ?_⟩) ?_ ?_
        rotate_left
        ·intro w'
         go_simp
         with_reducible rfl
        rotate_left
        ·simp only [Act.put, lsa_, ls0_, ls1_, i64_w, i32_w]
         rfl
        refine pure_ (i := 6) (N := some 67) (v := ?_) (a' := ?_) #[t_,t_,t_,t_,t_,t_,t_,f_,f_,f_,f_,f_,f_,f_,f_,f_] rfl rfl (aD_ HT_.out (by kernel_rfl)) (fun _ _ _ h => h) (Or.inl ⟨by rfl, ?_⟩) ?_ ?_
        rotate_left
        ·intro w'
         go_simp
         with_reducible rfl
        rotate_left
        ·simp only [Act.put, lsa_, ls0_, ls1_, i64_w, i32_w]
         rfl
        refine pure_ (i := 7) (N := some 68) (v := undef) (a' := ?_) #[t_,t_,t_,t_,t_,t_,t_,t_,f_,f_,f_,f_,f_,f_,f_,f_] rfl rfl (aD_ HT_.out (by kernel_rfl)) (fun _ _ _ h => h) (Or.inr ⟨by rfl, rfl⟩) ?_ ?_
        rotate_left
        ·simp only [Act.put, lsa_, ls0_, ls1_, i64_w, i32_w]
         rfl
        refine pure_ (i := 8) (N := some 69) (v := undef) (a' := ?_) #[t_,t_,t_,t_,t_,t_,t_,t_,t_,f_,f_,f_,f_,f_,f_,f_] rfl rfl (aD_ HT_.out (by kernel_rfl)) (fun _ _ _ h => h) (Or.inr ⟨by rfl, rfl⟩) ?_ ?_
        rotate_left
        ·simp only [Act.put, lsa_, ls0_, ls1_, i64_w, i32_w]
         rfl
        refine pure_ (i := 9) (N := some 70) (v := undef) (a' := ?_) #[t_,t_,t_,t_,t_,t_,t_,t_,t_,t_,f_,f_,f_,f_,f_,f_] rfl rfl (aD_ HT_.out (by kernel_rfl)) (fun _ _ _ h => h) (Or.inr ⟨by rfl, rfl⟩) ?_ ?_
        rotate_left
        ·simp only [Act.put, lsa_, ls0_, ls1_, i64_w, i32_w]
         rfl
        refine pure_ (i := 10) (N := some 71) (v := undef) (a' := ?_) #[t_,t_,t_,t_,t_,t_,t_,t_,t_,t_,t_,f_,f_,f_,f_,f_] rfl rfl (aD_ HT_.out (by kernel_rfl)) (fun _ _ _ h => h) (Or.inr ⟨by rfl, rfl⟩) ?_ ?_
        rotate_left
        ·simp only [Act.put, lsa_, ls0_, ls1_, i64_w, i32_w]
         rfl
        refine pure_ (i := 11) (N := some 72) (v := undef) (a' := ?_) #[t_,t_,t_,t_,t_,t_,t_,t_,t_,t_,t_,t_,f_,f_,f_,f_] rfl rfl (aD_ HT_.out (by kernel_rfl)) (fun _ _ _ h => h) (Or.inr ⟨by rfl, rfl⟩) ?_ ?_
        rotate_left
        ·simp only [Act.put, lsa_, ls0_, ls1_, i64_w, i32_w]
         rfl
        refine pure_ (i := 12) (N := some 73) (v := undef) (a' := ?_) #[t_,t_,t_,t_,t_,t_,t_,t_,t_,t_,t_,t_,t_,f_,f_,f_] rfl rfl (aD_ HT_.out (by kernel_rfl)) (fun _ _ _ h => h) (Or.inr ⟨by rfl, rfl⟩) ?_ ?_
        rotate_left
        ·simp only [Act.put, lsa_, ls0_, ls1_, i64_w, i32_w]
         rfl
        refine pure_ (i := 13) (N := some 74) (v := undef) (a' := ?_) #[t_,t_,t_,t_,t_,t_,t_,t_,t_,t_,t_,t_,t_,t_,f_,f_] rfl rfl (aD_ HT_.out (by kernel_rfl)) (fun _ _ _ h => h) (Or.inr ⟨by rfl, rfl⟩) ?_ ?_
        rotate_left
        ·simp only [Act.put, lsa_, ls0_, ls1_, i64_w, i32_w]
         rfl
        refine pure_ (i := 14) (N := some 75) (v := undef) (a' := ?_) #[t_,t_,t_,t_,t_,t_,t_,t_,t_,t_,t_,t_,t_,t_,t_,f_] rfl rfl (aD_ HT_.out (by kernel_rfl)) (fun _ _ _ h => h) (Or.inr ⟨by rfl, rfl⟩) ?_ ?_
        rotate_left
        ·simp only [Act.put, lsa_, ls0_, ls1_, i64_w, i32_w]
         rfl
        refine pure_ (i := 15) (N := some 76) (v := ?_) (a' := ?_) #[t_,t_,t_,t_,t_,t_,t_,t_,t_,t_,t_,t_,t_,t_,t_,t_] rfl rfl (aD_ HT_.out (by kernel_rfl)) (fun _ _ _ h => h) (Or.inl ⟨by rfl, ?_⟩) ?_ ?_
        rotate_left
        ·intro w'
         go_simp
         with_reducible rfl
        rotate_left
        ·simp only [Act.put, lsa_, ls0_, ls1_, i64_w, i32_w]
         rfl
        refine done_ (done_of HT_.out (by kernel_rfl)) ?_
        try go_wp2
        go_meet
        case rel => exact ⟨_, (false), (by first | rfl | (simp; done) | (simp [*]; done)), H', ⟨by have := HJ11.out; have := HK2.out; first | omega | exact Nat.le_refl _⟩, ⟨rz HO_5.out⟩, ⟨rz HO_10.out⟩, ⟨by (with_reducible repeat (first | refine ae_ ?_ _ | refine am_ ?_ | refine af_ ?_ _)); exact BK123.out⟩, ⟨by rw [Ny114.out, KA23.out]; exact Kd.C_drop (m := 1) (c := co14) ((Kd.ay_ (rz HO_5.out)).2.2) KL23.out ((Kd.ay_ HO_5.out).2.1)⟩, ⟨by repeat (first | (with_reducible first | exact HB.out | apply bA_ | apply bN_ | apply bD_ | refine al_ ?_ GE123.out) | exact HB.out)⟩⟩
       rw [if_pos c33] at H
       have c33b0 : decide (0 < x51_2) = true := decide_eq_true c33
       clear c33
       obtain ⟨ji34, hji34⟩ : ∃ j_ : Int, (wrap64 (x51_2 - 1)) = j_ := ⟨_, rfl⟩
       replace H : (if 0 ≤ (ji34) then (if (ji34) < (x10_2.length : Int) then ((bb_.f ((aj_ x10_2 (ji34)).f0) ((aj_ x10_2 (ji34)).f1) ((aj_ x10_2 (ji34)).f2) t119 t120 t121).bind fun t125 => (aa_.j2 k2 t102 t108 x10_2 x51_2 t122 y114 (y114.length : Int) x51_2 (decide (t125 ≥ 0)) t119 t120 t121)) else (none)) else (none)) = some (r1, r2, r3) := by first | (rw [hji34] at H; exact H) | (simp only [hji34] at H ⊢; exact H)
       have hji34w : (IntKind.i64.wrap (x51_2 - 1)) = ji34 := (i64_w _).trans hji34
       by_cases c35 : 0 ≤ (ji34)
       rotate_left
       ·rw [if_neg c35] at H
        exact absurd H (by simp)
       rw [if_pos c35] at H
       have c35b0 : decide (0 ≤ (ji34)) = true := decide_eq_true c35
       clear c35
       by_cases c36 : (ji34) < (x10_2.length : Int)
       rotate_left
       ·rw [if_neg c36] at H
        exact absurd H (by simp)
       rw [if_pos c36] at H
       have c36b0 : decide ((ji34) < (x10_2.length : Int)) = true := decide_eq_true c36
       clear c36
       replace H := Option.bind_eq_some_iff.mp H
       obtain ⟨t125, A370, H⟩ := H
       (try dsimp only at H)
       have A37 := Aside0.mk A370
       clear A370
       have H' := Aside0.mk H
       clear H
       try go_wp2
       have n0_ : Aside0 (Kd.R Kd.string 9 (((w30.setCell ⟨gb123, 0, none⟩ (.string t119)).setCell ⟨gb123, 1, none⟩ (.string t120)).setCell ⟨gb123, 2, none⟩ (.string t121)) w.heap.size (fun _ => True) (.slice (some ad105) t102.length co14) t102) := ⟨rz (Kd.ba_ (Kd.R_far (p := ⟨gb123, 2, none⟩) (Kd.R_far (p := ⟨gb123, 1, none⟩) (Kd.R_far (p := ⟨gb123, 0, none⟩) (Kd.R_types HO_5.out BK123.out (by decide)) (fun _ hk => hk.2) (.string t119)) (fun _ hk => hk.2) (.string t120)) (fun _ hk => hk.2) (.string t121)) (fun _ hk => trivial))⟩
       have n1_ : Aside0 (Kd.R k43 43 (((w30.setCell ⟨gb123, 0, none⟩ (.string t119)).setCell ⟨gb123, 1, none⟩ (.string t120)).setCell ⟨gb123, 2, none⟩ (.string t121)) w.heap.size (fun k_ => k_ ≠ gb123) u10 x10_2) := ⟨rz (Kd.ba_ (Kd.R_far (p := ⟨gb123, 2, none⟩) (Kd.R_far (p := ⟨gb123, 1, none⟩) (Kd.R_far (p := ⟨gb123, 0, none⟩) (Kd.ba_ HO_10.out (fun k_ hk => (⟨hk, hk.2⟩ : _ ∧ k_ ≠ gb123))) (fun _ hk => hk.2) (.string t119)) (fun _ hk => hk.2) (.string t120)) (fun _ hk => hk.2) (.string t121)) (fun _ hk => hk.1.2))⟩
       have n2_ : Aside0 ((((w30.setCell ⟨gb123, 0, none⟩ (.string t119)).setCell ⟨gb123, 1, none⟩ (.string t120)).setCell ⟨gb123, 2, none⟩ (.string t121)).heap[gb123]? = some (.cells #[.string t119, .string t120, .string t121] 43 (0, 0))) := ⟨by (with_reducible repeat (first | refine ae_ ?_ _ | refine am_ ?_ | refine af_ ?_ _)); refine aI_ (cs := #[.string t119, .string t120, .string (⟨#[]⟩ : ByteArray)]) ?_ 2 _ rfl; (with_reducible repeat (first | refine ae_ ?_ _ | refine am_ ?_ | refine af_ ?_ _)); refine aI_ (cs := #[.string t119, .string (⟨#[]⟩ : ByteArray), .string (⟨#[]⟩ : ByteArray)]) ?_ 1 _ rfl; (with_reducible repeat (first | refine ae_ ?_ _ | refine am_ ?_ | refine af_ ?_ _)); refine aI_ (cs := #[.string (⟨#[]⟩ : ByteArray), .string (⟨#[]⟩ : ByteArray), .string (⟨#[]⟩ : ByteArray)]) ?_ 0 _ rfl; (with_reducible repeat (first | refine ae_ ?_ _ | refine am_ ?_ | refine af_ ?_ _)); exact BK123.out⟩
       have n3_ : Aside0 (Below w.heap.size w (((w30.setCell ⟨gb123, 0, none⟩ (.string t119)).setCell ⟨gb123, 1, none⟩ (.string t120)).setCell ⟨gb123, 2, none⟩ (.string t121))) := ⟨by repeat (first | (with_reducible first | exact HB.out | apply bA_ | apply bN_ | apply bD_ | refine al_ ?_ GE123.out) | exact HB.out)⟩
       (try clear HO_5)
       (try clear HO_10)
       (try clear BK123)
       (try clear HB)
       generalize (((w30.setCell ⟨gb123, 0, none⟩ (.string t119)).setCell ⟨gb123, 1, none⟩ (.string t120)).setCell ⟨gb123, 2, none⟩ (.string t121)) = w38 at n0_ n1_ n2_ n3_ ⊢
       have HO_5 := n0_
       have HO_10 := n1_
       have BK123 := n2_
       have HB := n3_
       clear n0_ n1_ n2_ n3_
       (try (rw [bq_ w38]; generalize hq_ : World.drewN w38 _ = w38; have n0_ : Aside0 (Kd.R k43 43 w38 w.heap.size (fun k_ => k_ ≠ gb123) u10 x10_2) := ⟨by rw [← hq_]; exact (rz HO_10.out)⟩; have n1_ : Aside0 (Kd.R Kd.string 9 w38 w.heap.size (fun k_ => True) (.slice (some ad105) t102.length co14) t102) := ⟨by rw [← hq_]; exact (rz HO_5.out)⟩; have n2_ : Aside0 (w38.heap[gb123]? = some (.cells #[.string t119, .string t120, .string t121] 43 (0, 0))) := ⟨by rw [← hq_]; exact (kz BK123.out)⟩; have n3_ : Aside0 (Below w.heap.size w w38) := ⟨by rw [← hq_]; exact (by repeat (first | (with_reducible first | exact HB.out | apply bA_ | apply bN_ | apply bD_ | refine al_ ?_ GE123.out) | exact HB.out))⟩; clear HO_10 HO_5 BK123 HB hq_; have HO_10 := n0_; have HO_5 := n1_; have BK123 := n2_; have HB := n3_; clear n0_ n1_ n2_ n3_))
       have n0_ := Aside0.mk (Kd.R_drew HO_5.out)
       have n1_ := Aside0.mk (Kd.R_drew HO_10.out)
       have n2_ := Aside0.mk (am_ BK123.out)
       have n3_ := Aside0.mk (bD_ HB.out)
       clear HO_5
       clear HO_10
       clear BK123
       clear HB
       have HO_5 := n0_
       have HO_10 := n1_
       have BK123 := n2_
       have HB := n3_
       clear n0_ n1_ n2_ n3_
       obtain ⟨Ao40, co40, eo40⟩ := Kd.bc_ HO_10.out
       (first | subst eo40 | (injection eo40 with f1_ f2_ f3_; have f4_ := f1_.symm; have f5_ := f3_.symm; clear f1_ f2_ f3_; subst f4_; subst f5_))
       have p124 : 0 ≤ ((ji34) : Int) := of_decide_eq_true (by assumption)
       have q124 : (ji34) < (x10_2.length : Int) := of_decide_eq_true (by assumption)
       obtain ⟨ad124, e124, hx124_0, hx124_1, hx124_2⟩ := bk_ (Kd.ay_ HO_10.out).2.2 (ji34) p124 q124
       cases e124
       replace p124 := eq_true p124
       replace q124 := eq_true q124
       refine start_ (n := 16) (S := fun w' => w'.cell? ⟨gb123, 0, none⟩ = some (.string t119) ∧ w'.cell? ⟨gb123, 1, none⟩ = some (.string t120) ∧ w'.cell? ⟨gb123, 2, none⟩ = some (.string t121) ∧ w'.cell? (ad124.add (((ji34)).toNat * 3)) = some (.string ((aj_ x10_2 (ji34)).f0)) ∧ w'.cell? ⟨(ad124.add (((ji34)).toNat * 3)).block, (ad124.add (((ji34)).toNat * 3)).off + 1, none⟩ = some (.string ((aj_ x10_2 (ji34)).f1)) ∧ w'.cell? ⟨(ad124.add (((ji34)).toNat * 3)).block, (ad124.add (((ji34)).toNat * 3)).off + 2, none⟩ = some (.string ((aj_ x10_2 (ji34)).f2))) (ds := []) #[f_,f_,f_,f_,f_,f_,f_,f_,f_,f_,f_,f_,f_,f_,f_,f_] (by kernel_rfl) rfl rfl ⟨(ai_ BK123.out 0).trans rfl, (ai_ BK123.out 1).trans rfl, (ai_ BK123.out 2).trans rfl, hx124_0, hx124_1, hx124_2⟩ (fun hHeld => ?_); refine bE_ aa_.tab13 aa_.bits13 (fun HT_ HW_ => ?_)
       generalize w38.drew = w39 at HO_5 HO_10 BK123 HB hx124_0 hx124_1 hx124_2 hHeld ⊢
       refine pure_ (i := 0) (N := some 61) (v := ?_) (a' := ?_) #[t_,f_,f_,f_,f_,f_,f_,f_,f_,f_,f_,f_,f_,f_,f_,f_] rfl rfl (aD_ HT_.out (by kernel_rfl)) (fun _ _ _ h => h) (Or.inl ⟨by rfl, ?_⟩) ?_ ?_
       rotate_left
       ·intro w'
        go_simp
        with_reducible rfl
       rotate_left
       ·simp only [Act.put, lsa_, ls0_, ls1_, i64_w, i32_w]
        rfl
       refine pure_ (i := 1) (N := some 62) (v := ?_) (a' := ?_) #[t_,t_,f_,f_,f_,f_,f_,f_,f_,f_,f_,f_,f_,f_,f_,f_] rfl rfl (aD_ HT_.out (by kernel_rfl)) (fun _ _ _ h => h) (Or.inl ⟨by rfl, ?_⟩) ?_ ?_
       rotate_left
       ·intro w'
        go_simp
        with_reducible rfl
       rotate_left
       ·simp only [Act.put, lsa_, ls0_, ls1_, i64_w, i32_w]
        rfl
       refine pure_ (i := 2) (N := some 63) (v := ?_) (a' := ?_) #[t_,t_,t_,f_,f_,f_,f_,f_,f_,f_,f_,f_,f_,f_,f_,f_] rfl rfl (aD_ HT_.out (by kernel_rfl)) (fun _ _ _ h => h) (Or.inl ⟨by rfl, ?_⟩) ?_ ?_
       rotate_left
       ·intro w'
        go_simp
        with_reducible rfl
       rotate_left
       ·simp only [Act.put, lsa_, ls0_, ls1_, i64_w, i32_w]
        rfl
       refine pure_ (i := 3) (N := some 64) (v := ?_) (a' := ?_) #[t_,t_,t_,t_,f_,f_,f_,f_,f_,f_,f_,f_,f_,f_,f_,f_] rfl rfl (aD_ HT_.out (by kernel_rfl)) (fun _ _ _ h => h) (Or.inl ⟨by rfl, ?_⟩) ?_ ?_
       rotate_left
       ·intro w'
        go_simp
        with_reducible rfl
       rotate_left
       ·simp only [Act.put, lsa_, ls0_, ls1_, i64_w, i32_w]
        rfl
       refine pure_ (i := 4) (N := some 65) (v := ?_) (a' := ?_) #[t_,t_,t_,t_,t_,f_,f_,f_,f_,f_,f_,f_,f_,f_,f_,f_] rfl rfl (aD_ HT_.out (by kernel_rfl)) (fun _ _ _ h => h) (Or.inl ⟨by rfl, ?_⟩) ?_ ?_
       rotate_left
       ·intro w'
        go_simp
        with_reducible rfl
       rotate_left
       ·simp only [Act.put, lsa_, ls0_, ls1_, i64_w, i32_w]
        rfl
       refine pure_ (i := 5) (N := some 66) (v := ?_) (a' := ?_) #[t_,t_,t_,t_,t_,t_,f_,f_,f_,f_,f_,f_,f_,f_,f_,f_] rfl rfl (aD_ HT_.out (by kernel_rfl)) (fun _ _ _ h => h) (Or.inl ⟨by rfl, ?_⟩) ?_ ?_
       rotate_left
       ·intro w'
        go_simp
        with_reducible rfl
       rotate_left
       ·simp only [Act.put, lsa_, ls0_, ls1_, i64_w, i32_w]
        rfl
       refine pure_ (i := 6) (N := some 67) (v := ?_) (a' := ?_) #[t_,t_,t_,t_,t_,t_,t_,f_,f_,f_,f_,f_,f_,f_,f_,f_] rfl rfl (aD_ HT_.out (by kernel_rfl)) (fun _ _ _ h => h) (Or.inl ⟨by rfl, ?_⟩) ?_ ?_
       rotate_left
       ·intro w'
        go_simp
        with_reducible rfl
       rotate_left
       ·simp only [Act.put, lsa_, ls0_, ls1_, i64_w, i32_w]
        rfl
       refine pure_ (i := 7) (N := some 68) (v := ?_) (a' := ?_) #[t_,t_,t_,t_,t_,t_,t_,t_,f_,f_,f_,f_,f_,f_,f_,f_] rfl rfl (aD_ HT_.out (by kernel_rfl)) (fun _ _ _ h => h) (Or.inl ⟨by rfl, ?_⟩) ?_ ?_
       rotate_left
       ·intro w'
        go_simp
        with_reducible rfl
       rotate_left
       ·simp only [Act.put, lsa_, ls0_, ls1_, i64_w, i32_w]
        rfl
       refine pure_ (i := 8) (N := some 69) (v := ?_) (a' := ?_) #[t_,t_,t_,t_,t_,t_,t_,t_,t_,f_,f_,f_,f_,f_,f_,f_] rfl rfl (aD_ HT_.out (by kernel_rfl)) (fun _ _ _ h => h) (Or.inl ⟨by rfl, ?_⟩) ?_ ?_
       rotate_left
       ·intro w'
        go_simp
        with_reducible rfl
       rotate_left
       ·simp only [Act.put, lsa_, ls0_, ls1_, i64_w, i32_w]
        rfl
       refine pure_ (i := 9) (N := some 70) (v := ?_) (a' := ?_) #[t_,t_,t_,t_,t_,t_,t_,t_,t_,t_,f_,f_,f_,f_,f_,f_] rfl rfl (aD_ HT_.out (by kernel_rfl)) (fun _ _ _ h => h) (Or.inl ⟨by rfl, ?_⟩) ?_ ?_
       rotate_left
       ·intro w'
        go_simp
        with_reducible rfl
       rotate_left
       ·simp only [Act.put, lsa_, ls0_, ls1_, i64_w, i32_w]
        rfl
       refine pure_ (i := 10) (N := some 71) (v := ?_) (a' := ?_) #[t_,t_,t_,t_,t_,t_,t_,t_,t_,t_,t_,f_,f_,f_,f_,f_] rfl rfl (aD_ HT_.out (by kernel_rfl)) (fun _ _ _ h => h) (Or.inl ⟨by rfl, ?_⟩) ?_ ?_
       rotate_left
       ·intro w'
        go_simp
        with_reducible rfl
       rotate_left
       ·simp only [Act.put, lsa_, ls0_, ls1_, i64_w, i32_w]
        rfl
       refine take_ (i := 11) (N := some 72) (v := ?_) (a' := ?_) #[t_,t_,t_,t_,t_,t_,t_,t_,t_,t_,t_,t_,f_,f_,f_,f_] rfl rfl (bI_ HT_.out HW_.out (by kernel_rfl)) (fun _ _ _ h => h) (Or.inl ⟨by rfl, ?_⟩) hHeld ?_ ?_
       rotate_left
       ·rintro w' ⟨s0, s1, s2, s3, s4, s5⟩
        go_simp
        with_reducible rfl
       rotate_left
       ·simp only [Act.put, lsa_, ls0_, ls1_, i64_w, i32_w]
        rfl
       refine take_ (i := 12) (N := some 73) (v := ?_) (a' := ?_) #[t_,t_,t_,t_,t_,t_,t_,t_,t_,t_,t_,t_,t_,f_,f_,f_] rfl rfl (bI_ HT_.out HW_.out (by kernel_rfl)) (fun _ _ _ h => h) (Or.inl ⟨by rfl, ?_⟩) hHeld ?_ ?_
       rotate_left
       ·rintro w' ⟨s0, s1, s2, s3, s4, s5⟩
        go_simp
        with_reducible rfl
       rotate_left
       ·simp only [Act.put, lsa_, ls0_, ls1_, i64_w, i32_w]
        rfl
       refine one_ (i := 13) (N := some 74) #[t_,t_,t_,t_,t_,t_,t_,t_,t_,t_,t_,t_,t_,t_,f_,f_] rfl rfl (one_of HT_.out (by kernel_rfl)) (by decide) (fun K hK => ?_)
       (first | refine goes_ Tryd.func36 (by kernel_rfl) rfl #[.agg #[.string ((aj_ x10_2 (ji34)).f0), .string ((aj_ x10_2 (ji34)).f1), .string ((aj_ x10_2 (ji34)).f2)], .agg #[.string t119, .string t120, .string t121]] (by rfl) rfl rfl (by (try simp only [List.map_toArray, List.map_cons, List.map_nil]); first | done | (simp only [hji34]; rfl) | rfl | (simp only [List.length_drop, List.length_take]; rfl)) ?_ | refine RPW.goesV_ Tryd.func36 (by kernel_rfl) rfl #[.agg #[.string ((aj_ x10_2 (ji34)).f0), .string ((aj_ x10_2 (ji34)).f1), .string ((aj_ x10_2 (ji34)).f2)], .agg #[.string t119, .string t120, .string t121]] (by rfl) rfl rfl rfl (by (try simp only [List.map_toArray, List.map_cons, List.map_nil]); first | done | (simp only [hji34]; rfl) | rfl | (simp only [List.length_drop, List.length_take]; rfl)) ?_ | refine RPW.goesC_ Tryd.func36 (by kernel_rfl) rfl #[.agg #[.string ((aj_ x10_2 (ji34)).f0), .string ((aj_ x10_2 (ji34)).f1), .string ((aj_ x10_2 (ji34)).f2)], .agg #[.string t119, .string t120, .string t121]] (by rfl) rfl rfl rfl (by (try simp only [List.map_toArray, List.map_cons, List.map_nil]); first | done | (simp only [hji34]; rfl) | rfl | (simp only [List.length_drop, List.length_take]; rfl)) ?_)
       with_reducible refine (bb_.calls ((aj_ x10_2 (ji34)).f0) ((aj_ x10_2 (ji34)).f1) ((aj_ x10_2 (ji34)).f2) t119 t120 t121 t125 _ A37.out).mono ?_
       rintro e w41 ⟨rfl, hb⟩
       have HS3_ := (hb.cell (bl_ _ _ (hHeld.2.2.2.1))).trans (hHeld.2.2.2.1)
       have HS4_ := (hb.cell (bl_ _ _ (hHeld.2.2.2.2.1))).trans (hHeld.2.2.2.2.1)
       have HS5_ := (hb.cell (bl_ _ _ (hHeld.2.2.2.2.2))).trans (hHeld.2.2.2.2.2)
       refine ⟨_, rfl, ?_⟩
       have n0_ := Aside0.mk (Kd.aZ_ (rz HO_5.out) hb)
       have n1_ := Aside0.mk (Kd.aZ_ (rz HO_10.out) hb)
       have n2_ := Aside0.mk (bv_ (g := gb123) (o := .cells #[.string t119, .string t120, .string t121] 43 (0, 0)) (kz BK123.out) hb)
       have n3_ := Aside0.mk (au_ (by repeat (first | (with_reducible first | exact HB.out | apply bA_ | apply bN_ | apply bD_ | refine al_ ?_ GE123.out) | exact HB.out)) hb)
       clear HO_5
       clear HO_10
       clear BK123
       clear HB
       have HO_5 := n0_
       have HO_10 := n1_
       have BK123 := n2_
       have HB := n3_
       clear n0_ n1_ n2_ n3_
       (try clear hb)
       refine hK.out _ _ ⟨(ai_ BK123.out 0).trans rfl, (ai_ BK123.out 1).trans rfl, (ai_ BK123.out 2).trans rfl, HS3_, HS4_, HS5_⟩ (fun hHeld => ?_)
       clear hK K
       refine norm_ (a' := ?_) ?_ ?_
       rotate_left
       ·show Act.put _ (some 74) _ = _
        simp only [Act.put, lsa_, ls0_, ls1_, i64_w, i32_w]
        rfl
       refine pure_ (i := 14) (N := some 75) (v := ?_) (a' := ?_) #[t_,t_,t_,t_,t_,t_,t_,t_,t_,t_,t_,t_,t_,t_,t_,f_] rfl rfl (aD_ HT_.out (by kernel_rfl)) (fun _ _ _ h => h) (Or.inl ⟨by rfl, ?_⟩) ?_ ?_
       rotate_left
       ·intro w'
        go_simp
        with_reducible rfl
       rotate_left
       ·simp only [Act.put, lsa_, ls0_, ls1_, i64_w, i32_w]
        rfl
       refine pure_ (i := 15) (N := some 76) (v := ?_) (a' := ?_) #[t_,t_,t_,t_,t_,t_,t_,t_,t_,t_,t_,t_,t_,t_,t_,t_] rfl rfl (aD_ HT_.out (by kernel_rfl)) (fun _ _ _ h => h) (Or.inl ⟨by rfl, ?_⟩) ?_ ?_
       rotate_left
       ·intro w'
        go_simp
        with_reducible rfl
       rotate_left
       ·simp only [Act.put, lsa_, ls0_, ls1_, i64_w, i32_w]
        rfl
       refine done_ (done_of HT_.out (by kernel_rfl)) ?_
       try go_wp2
       go_meet
       case rel => exact ⟨_, (decide (t125 ≥ 0)), (by first | rfl | (simp; done) | (simp [*]; done)), H', ⟨by have := HJ11.out; have := HK2.out; first | omega | exact Nat.le_refl _⟩, ⟨rz HO_5.out⟩, ⟨rz HO_10.out⟩, ⟨by (with_reducible repeat (first | refine ae_ ?_ _ | refine am_ ?_ | refine af_ ?_ _)); exact BK123.out⟩, ⟨by rw [Ny114.out, KA23.out]; exact Kd.C_drop (m := 1) (c := co14) ((Kd.ay_ (rz HO_5.out)).2.2) KL23.out ((Kd.ay_ HO_5.out).2.1)⟩, ⟨by repeat (first | (with_reducible first | exact HB.out | apply bA_ | apply bN_ | apply bD_ | refine al_ ?_ GE123.out) | exact HB.out)⟩⟩
      case rest =>
       clear HC28
       obtain ⟨kq, x76_27, rfl, HA, HJ27, HO_5, HO_10, BK123, HR117, HB⟩ := hcut
       cases kq with
       | zero => exact absurd HA.out (by simp [aa_.j2])
       | succ kj27 =>
        have H := HA.out
        clear HA
        simp only [aa_.j2] at H
        by_cases c46 : x76_27 = true
        rotate_left
        ·replace c46 := Bool.eq_false_iff.mpr c46
         subst c46
         have H1 : (if t122 = 0 then (if x10_2.length < 2932031007402 then (aa_.l0 kj27 t102 t108 (x10_2 ++ [(⟨t119, t120, t121⟩ : S43)]) y114 (y114.length : Int) (wrap64 (x51_2 + 1))) else (none)) else (some (([] : List (S43)), wrap64 (x51_2 + 2), t122))) = some (r1, r2, r3) := by rw [if_neg (show ¬ (false = true) by decide)] at H; exact H
         clear H
         have H := H1
         clear H1
         by_cases c47 : t122 = 0
         rotate_left
         ·rw [if_neg c47] at H
          have c47b0 : (t122 == 0) = false := beq_eq_false_iff_ne.mpr c47
          have c47b1 : (t122 != 0) = true := bne_iff_ne.mpr c47
          simp only [Option.some.injEq, Prod.mk.injEq] at H
          obtain ⟨rfl, rfl, rfl⟩ := H
          go_wp2
          go_ret3
          exact ⟨_, by first | rfl | (simp [ap_, aq_] <;> rfl) | (simp only [← hji5]; first | rfl | (simp [ap_, aq_] <;> rfl)) | (simp [*, ap_, aq_] <;> rfl), by first | exact Kd.R_nil _ _ _ _ _ | exact Kd.N_nil _ _ _ _ _ | exact Kd.V_nil _ _ _ _ _ | exact Kd.Q_nil _ _ _ _ _ | exact Kd.S_nil _ _ _ _ _, by repeat (first | (with_reducible first | exact HB.out | apply bA_ | apply bN_ | apply bD_ | refine al_ ?_ GE123.out) | exact HB.out)⟩
         rw [if_pos c47] at H
         have c47b0 : (t122 == 0) = true := beq_iff_eq.mpr c47
         have c47b1 : (t122 != 0) = false := bne_eq_false_iff_eq.mpr c47
         clear c47
         by_cases c48 : x10_2.length < 2932031007402
         rotate_left
         ·rw [if_neg c48] at H
          exact absurd H (by simp)
         rw [if_pos c48] at H
         have LMc48 := Aside0.mk c48
         clear c48
         obtain ⟨y126, hy126⟩ : ∃ y_ : List (S43), y_ = (x10_2 ++ [(⟨t119, t120, t121⟩ : S43)]) := ⟨_, rfl⟩
         replace H : (aa_.l0 kj27 t102 t108 y126 y114 (y114.length : Int) (wrap64 (x51_2 + 1))) = some (r1, r2, r3) := by first | (rw [hy126]; with_reducible exact H) | (have H2_ := (Option.bind_some _ _).symm.trans H; rw [hy126]; with_reducible exact H2_) | (have H2_ := (Option.bind_some _ _).symm.trans H; with_reducible exact H2_) | with_reducible exact H | (rw [hy126]; exact H) | exact H
         have Ny126 := Aside0.mk hy126
         clear hy126
         have H' := Aside0.mk H
         clear H
         have hcz49_0 : wc.cell? ⟨gb123, 0, none⟩ = some (.string t119) := (ai_ BK123.out 0).trans rfl
         have hcz49_1 : wc.cell? ⟨gb123, 1, none⟩ = some (.string t120) := (ai_ BK123.out 1).trans rfl
         have hcz49_2 : wc.cell? ⟨gb123, 2, none⟩ = some (.string t121) := (ai_ BK123.out 2).trans rfl
         have hfz49_0 := ab_ BK123.out 0
         have hfz49_1 := ab_ BK123.out 1
         have hfz49_2 := ab_ BK123.out 2
         go_wp2_with (first | ((with_reducible refine bo_ (b := .append) (xs := #[.tmp 82, .tmp 84]) rfl ?_); at_builtin; refine Kd.bM_ k43 (w0 := w) w.heap.size rfl (.tmp 82) (.tmp 84) 27 43 (.agg #[(.string ⟨#[]⟩), (.string ⟨#[]⟩), (.string ⟨#[]⟩)]) 48 rfl Tryd.underlying27 info43 rfl (by decide) (by omega) u10 x10_2 (⟨t119, t120, t121⟩ : S43) [.string t119, .string t120, .string t121] (fun k_ => k_ ≠ gb123) (fun _ => False) rfl rfl ?aP (fun _ hk => hk.elim) ?aF ?aO ?aB ?aS ?aL ?_; (case aP => exact k43_mkM _ _ _ (⟨t119, t120, t121⟩ : S43)); (case aB => exact (by repeat (first | (with_reducible first | exact HB.out | apply bA_ | apply bN_ | apply bD_ | refine al_ ?_ GE123.out) | exact HB.out))); (case aF => exact (fun k_ hk => Kd.freshB (g := gb123) (o := .cells #[.string t119, .string t120, .string t121] 43 (0, 0)) (kz BK123.out) k_ hk)); (case aO => exact (rz HO_10.out)); (case aS => exact (aw_ (by repeat (first | (with_reducible first | exact HB.out | apply bA_ | apply bN_ | apply bD_ | refine al_ ?_ GE123.out) | exact HB.out)))); (case aL => have := LMc48.out; omega); intro v127 w50 ho hb hg hat; rw [← Ny126.out] at ho; replace BK123 := Aside0.mk (blk_grown (g := gb123) (o := .cells #[.string t119, .string t120, .string t121] 43 (0, 0)) (kz BK123.out) hg (Kd.R_away HO_10.out (fun _ hk => hk))); replace HB := Aside0.mk (hb); replace HR117 := Aside0.mk ((show Kd.C Kd.string w50 (some ad118) y114.length y114 from by rw [Ny114.out, KA23.out]; exact Kd.C_drop (m := 1) (c := co14) ((Kd.ay_ (Kd.R_over' (rz HO_5.out) (Kd.R_typed (rz HO_10.out)) (by decide) hg)).2.2) KL23.out ((Kd.ay_ (Kd.R_over' (rz HO_5.out) (Kd.R_typed (rz HO_10.out)) (by decide) hg)).2.1))); replace HO_5 := Aside0.mk (Kd.R_over' (rz HO_5.out) (Kd.R_typed (rz HO_10.out)) (by decide) hg); have HO128 := Aside0.mk (ho); clear HO_10; clear ho hb hg hat))
         go_roundg kj27
         case measure => have := HJ11.out; have := HK2.out; have := HJ27.out; omega
         case rel => exact ⟨(y126), (wrap64 (x51_2 + 1)), (by first | rfl | (simp; done) | (simp [*]; done)), H', ⟨by have := HJ11.out; have := HK2.out; have := HJ27.out; omega⟩, ⟨rz HO_5.out⟩, ⟨rz (Kd.ba_ HO128.out (fun _ hk => trivial))⟩, ⟨by repeat (first | (with_reducible exact HR117.out) | (with_reducible first | refine Kd.C_alloc ?_ _ | refine Kd.C_drewN ?_ _ | refine Kd.C_drew ?_) | exact HR117.out)⟩, ⟨by repeat (first | (with_reducible first | exact HB.out | apply bA_ | apply bN_ | apply bD_ | refine al_ ?_ GE123.out) | exact HB.out)⟩⟩
        subst c46
        have H1 : (some (([] : List (S43)), wrap64 (x51_2 + 2), 7)) = some (r1, r2, r3) := by rw [if_pos rfl] at H; exact H
        clear H
        have H := H1
        clear H1
        simp only [Option.some.injEq, Prod.mk.injEq] at H
        obtain ⟨rfl, rfl, rfl⟩ := H
        go_wp2
        go_ret3
        exact ⟨_, by first | rfl | (simp [ap_, aq_] <;> rfl) | (simp only [← hji5]; first | rfl | (simp [ap_, aq_] <;> rfl)) | (simp [*, ap_, aq_] <;> rfl), by first | exact Kd.R_nil _ _ _ _ _ | exact Kd.N_nil _ _ _ _ _ | exact Kd.V_nil _ _ _ _ _ | exact Kd.Q_nil _ _ _ _ _ | exact Kd.S_nil _ _ _ _ _, by repeat (first | (with_reducible first | exact HB.out | apply bA_ | apply bN_ | apply bD_ | refine al_ ?_ GE123.out) | exact HB.out)⟩
   subst c19
   have H1 : (some (([] : List (S43)), 1, 9)) = some (r1, r2, r3) := by rw [if_pos rfl] at H; exact H
   clear H
   have H := H1
   clear H1
   simp only [Option.some.injEq, Prod.mk.injEq] at H
   obtain ⟨rfl, rfl, rfl⟩ := H
   go_wp2
   go_ret3
   exact ⟨_, by first | rfl | (simp [ap_, aq_] <;> rfl) | (simp only [← hji5]; first | rfl | (simp [ap_, aq_] <;> rfl)) | (simp [*, ap_, aq_] <;> rfl), by first | exact Kd.R_nil _ _ _ _ _ | exact Kd.N_nil _ _ _ _ _ | exact Kd.V_nil _ _ _ _ _ | exact Kd.Q_nil _ _ _ _ _ | exact Kd.S_nil _ _ _ _ _, bz HB.out⟩
def bB_.f (a0_0 : ByteArray) (a0_1 : ByteArray) (a0_2 : ByteArray) (a1_0 : ByteArray) (a1_1 : ByteArray) (a1_2 : ByteArray) : Option (Bool) := if a0_0.toList = a1_0.toList then (if a0_1.toList = a1_1.toList then (if a0_2.toList = a1_2.toList then (some true) else (some false)) else (some false)) else (some false)
set_option maxHeartbeats 8000000 in
set_option maxRecDepth 100000 in
theorem bB_.calls (a0_0 : ByteArray) (a0_1 : ByteArray) (a0_2 : ByteArray) (a1_0 : ByteArray) (a1_1 : ByteArray) (a1_2 : ByteArray) (r : Bool) (w : World) (h : bB_.f a0_0 a0_1 a0_2 a1_0 a1_1 a1_2 = some r) :
  Calls Tryd.prog 37 #[.agg #[.string a0_0, .string a0_1, .string a0_2], .agg #[.string a1_0, .string a1_1, .string a1_2]] w fun e w' => e = .returned (.bool r) ∧ Below w.heap.size w w' := by
 have hu43 := Tryd.underlying43
 have HB := Aside0.mk (Below.refl w.heap.size w)
 have H : (if a0_0.toList = a1_0.toList then (if a0_1.toList = a1_1.toList then (if a0_2.toList = a1_2.toList then (some true) else (some false)) else (some false)) else (some false)) = some r := h
 clear h
 have HC3 := Aside0.mk H
 clear H
 go_enter Tryd.func37, Tryd.ntmps37
 go_upto_if 9 with (first | ((with_reducible refine bn_ (N := 2) rfl ?_); refine bs_ ?hg (N := 2) ?hd (cs := #[.string a0_0, .string a0_1, .string a0_2]) (t := 43) ?hr ?_; (case hd => rfl); (case hg => rfl); (case hr => (go_simp; try rfl)); intro gb101 hg w4 hbox hb; have BK101 := Aside0.mk (hbox); have GW101 := Aside0.mk ((by rw [hg]; exact (aw_ (bz HB.out)) : w.heap.size ≤ gb101)); have GE101 := Aside0.mk ((by rw [hg]; exact (aw_ (bz HB.out)) : w.heap.size ≤ gb101)); replace HB := Aside0.mk (au_ (bz HB.out) hb); clear hb hbox hg) | ((with_reducible refine bn_ (N := 3) rfl ?_); refine bs_ ?hg (N := 3) ?hd (cs := #[.string a1_0, .string a1_1, .string a1_2]) (t := 43) ?hr ?_; (case hd => rfl); (case hg => rfl); (case hr => (go_simp; try rfl)); intro gb102 hg w5 hbox hb; have BK102 := Aside0.mk (hbox); have GW102 := Aside0.mk ((by rw [hg]; exact (aw_ (by repeat (first | (with_reducible first | exact HB.out | apply bA_ | apply bN_ | apply bD_ | refine al_ ?_ GE101.out) | exact HB.out))) : w.heap.size ≤ gb102)); have GE102 := Aside0.mk ((by rw [hg]; exact (aw_ (by repeat (first | (with_reducible first | exact HB.out | apply bA_ | apply bN_ | apply bD_ | refine al_ ?_ GE101.out) | exact HB.out))) : w.heap.size ≤ gb102)); replace HB := Aside0.mk (au_ (by repeat (first | (with_reducible first | exact HB.out | apply bA_ | apply bN_ | apply bD_ | refine al_ ?_ GE101.out) | exact HB.out)) hb); have NB101_102 := Aside0.mk ((by rw [hg]; exact Nat.ne_of_lt (blk_lt (g := gb101) (o := .cells #[.string a0_0, .string a0_1, .string a0_2] 43 (0, 0)) (kz BK101.out)) : gb101 ≠ gb102)); have NB102_101 := Aside0.mk ((by rw [hg]; exact Nat.ne_of_gt (blk_lt (g := gb101) (o := .cells #[.string a0_0, .string a0_1, .string a0_2] 43 (0, 0)) (kz BK101.out)) : gb102 ≠ gb101)); replace BK101 := Aside0.mk (bv_ (g := gb101) (o := .cells #[.string a0_0, .string a0_1, .string a0_2] 43 (0, 0)) (kz BK101.out) hb); clear hb hbox hg; have hnb6 := NB101_102.out; have hnc6 := NB102_101.out; have hcz7_0 : w5.cell? ⟨gb101, 0, none⟩ = some (.string a0_0) := (ai_ BK101.out 0).trans rfl; have hcz7_1 : w5.cell? ⟨gb101, 1, none⟩ = some (.string a0_1) := (ai_ BK101.out 1).trans rfl; have hcz7_2 : w5.cell? ⟨gb101, 2, none⟩ = some (.string a0_2) := (ai_ BK101.out 2).trans rfl; have hfz7_0 := ab_ BK101.out 0; have hfz7_1 := ab_ BK101.out 1; have hfz7_2 := ab_ BK101.out 2; have hcz8_0 : w5.cell? ⟨gb102, 0, none⟩ = some (.string a1_0) := (ai_ BK102.out 0).trans rfl; have hcz8_1 : w5.cell? ⟨gb102, 1, none⟩ = some (.string a1_1) := (ai_ BK102.out 1).trans rfl; have hcz8_2 : w5.cell? ⟨gb102, 2, none⟩ = some (.string a1_2) := (ai_ BK102.out 2).trans rfl; have hfz8_0 := ab_ BK102.out 0; have hfz8_1 := ab_ BK102.out 1; have hfz8_2 := ab_ BK102.out 2))
 (try simp only [Act.put, lsa_, ls0_, ls1_])
 have H := HC3.out
 clear HC3
 by_cases c9 : a0_0.toList = a1_0.toList
 rotate_left
 ·rw [if_neg c9] at H
  have c9b0 : (a0_0.toList == a1_0.toList) = false := beq_eq_false_iff_ne.mpr c9
  have c9b1 : (a0_0.toList != a1_0.toList) = true := bne_iff_ne.mpr c9
  (first | rw [c9b0] | (simp only [i64_w, i32_w]; rw [c9b0]) | (simp only [c9b1, Bool.not_true, Bool.not_false]) | (simp only [c9b0, Bool.not_true, Bool.not_false]) | skip)
  obtain rfl := Option.some.inj H
  go_wp2
  go_ret
  exact ⟨by first | rfl | (simp [*, ap_, aq_] <;> rfl), by repeat (first | (with_reducible first | exact HB.out | apply bA_ | apply bN_ | apply bD_ | refine al_ ?_ GE101.out | refine al_ ?_ GE102.out) | exact HB.out)⟩
 rw [if_pos c9] at H
 have c9b0 : (a0_0.toList == a1_0.toList) = true := beq_iff_eq.mpr c9
 have c9b1 : (a0_0.toList != a1_0.toList) = false := bne_eq_false_iff_eq.mpr c9
 clear c9
 (first | rw [c9b0] | (simp only [i64_w, i32_w]; rw [c9b0]) | (simp only [c9b1, Bool.not_true, Bool.not_false]) | (simp only [c9b0, Bool.not_true, Bool.not_false]) | skip)
 by_cases c10 : a0_1.toList = a1_1.toList
 rotate_left
 ·rw [if_neg c10] at H
  have c10b0 : (a0_1.toList == a1_1.toList) = false := beq_eq_false_iff_ne.mpr c10
  have c10b1 : (a0_1.toList != a1_1.toList) = true := bne_iff_ne.mpr c10
  obtain rfl := Option.some.inj H
  have hnb18 := NB101_102.out
  have hnc18 := NB102_101.out
  have hcz19_0 : w5.cell? ⟨gb101, 0, none⟩ = some (.string a0_0) := (ai_ BK101.out 0).trans rfl
  have hcz19_1 : w5.cell? ⟨gb101, 1, none⟩ = some (.string a0_1) := (ai_ BK101.out 1).trans rfl
  have hcz19_2 : w5.cell? ⟨gb101, 2, none⟩ = some (.string a0_2) := (ai_ BK101.out 2).trans rfl
  have hfz19_0 := ab_ BK101.out 0
  have hfz19_1 := ab_ BK101.out 1
  have hfz19_2 := ab_ BK101.out 2
  have hcz20_0 : w5.cell? ⟨gb102, 0, none⟩ = some (.string a1_0) := (ai_ BK102.out 0).trans rfl
  have hcz20_1 : w5.cell? ⟨gb102, 1, none⟩ = some (.string a1_1) := (ai_ BK102.out 1).trans rfl
  have hcz20_2 : w5.cell? ⟨gb102, 2, none⟩ = some (.string a1_2) := (ai_ BK102.out 2).trans rfl
  have hfz20_0 := ab_ BK102.out 0
  have hfz20_1 := ab_ BK102.out 1
  have hfz20_2 := ab_ BK102.out 2
  go_wp2
  go_ret
  exact ⟨by first | rfl | (simp [*, ap_, aq_] <;> rfl), by repeat (first | (with_reducible first | exact HB.out | apply bA_ | apply bN_ | apply bD_ | refine al_ ?_ GE101.out | refine al_ ?_ GE102.out) | exact HB.out)⟩
 rw [if_pos c10] at H
 have c10b0 : (a0_1.toList == a1_1.toList) = true := beq_iff_eq.mpr c10
 have c10b1 : (a0_1.toList != a1_1.toList) = false := bne_eq_false_iff_eq.mpr c10
 clear c10
 by_cases c11 : a0_2.toList = a1_2.toList
 rotate_left
 ·rw [if_neg c11] at H
  have c11b0 : (a0_2.toList == a1_2.toList) = false := beq_eq_false_iff_ne.mpr c11
  have c11b1 : (a0_2.toList != a1_2.toList) = true := bne_iff_ne.mpr c11
  obtain rfl := Option.some.inj H
  have hnb15 := NB101_102.out
  have hnc15 := NB102_101.out
  have hcz16_0 : w5.cell? ⟨gb101, 0, none⟩ = some (.string a0_0) := (ai_ BK101.out 0).trans rfl
  have hcz16_1 : w5.cell? ⟨gb101, 1, none⟩ = some (.string a0_1) := (ai_ BK101.out 1).trans rfl
  have hcz16_2 : w5.cell? ⟨gb101, 2, none⟩ = some (.string a0_2) := (ai_ BK101.out 2).trans rfl
  have hfz16_0 := ab_ BK101.out 0
  have hfz16_1 := ab_ BK101.out 1
  have hfz16_2 := ab_ BK101.out 2
  have hcz17_0 : w5.cell? ⟨gb102, 0, none⟩ = some (.string a1_0) := (ai_ BK102.out 0).trans rfl
  have hcz17_1 : w5.cell? ⟨gb102, 1, none⟩ = some (.string a1_1) := (ai_ BK102.out 1).trans rfl
  have hcz17_2 : w5.cell? ⟨gb102, 2, none⟩ = some (.string a1_2) := (ai_ BK102.out 2).trans rfl
  have hfz17_0 := ab_ BK102.out 0
  have hfz17_1 := ab_ BK102.out 1
  have hfz17_2 := ab_ BK102.out 2
  go_wp2
  go_ret
  exact ⟨by first | rfl | (simp [*, ap_, aq_] <;> rfl), by repeat (first | (with_reducible first | exact HB.out | apply bA_ | apply bN_ | apply bD_ | refine al_ ?_ GE101.out | refine al_ ?_ GE102.out) | exact HB.out)⟩
 rw [if_pos c11] at H
 have c11b0 : (a0_2.toList == a1_2.toList) = true := beq_iff_eq.mpr c11
 have c11b1 : (a0_2.toList != a1_2.toList) = false := bne_eq_false_iff_eq.mpr c11
 clear c11
 obtain rfl := Option.some.inj H
 have hnb12 := NB101_102.out
 have hnc12 := NB102_101.out
 have hcz13_0 : w5.cell? ⟨gb101, 0, none⟩ = some (.string a0_0) := (ai_ BK101.out 0).trans rfl
 have hcz13_1 : w5.cell? ⟨gb101, 1, none⟩ = some (.string a0_1) := (ai_ BK101.out 1).trans rfl
 have hcz13_2 : w5.cell? ⟨gb101, 2, none⟩ = some (.string a0_2) := (ai_ BK101.out 2).trans rfl
 have hfz13_0 := ab_ BK101.out 0
 have hfz13_1 := ab_ BK101.out 1
 have hfz13_2 := ab_ BK101.out 2
 have hcz14_0 : w5.cell? ⟨gb102, 0, none⟩ = some (.string a1_0) := (ai_ BK102.out 0).trans rfl
 have hcz14_1 : w5.cell? ⟨gb102, 1, none⟩ = some (.string a1_1) := (ai_ BK102.out 1).trans rfl
 have hcz14_2 : w5.cell? ⟨gb102, 2, none⟩ = some (.string a1_2) := (ai_ BK102.out 2).trans rfl
 have hfz14_0 := ab_ BK102.out 0
 have hfz14_1 := ab_ BK102.out 1
 have hfz14_2 := ab_ BK102.out 2
 go_wp2
 go_ret
 exact ⟨by first | rfl | (simp [*, ap_, aq_] <;> rfl), by repeat (first | (with_reducible first | exact HB.out | apply bA_ | apply bN_ | apply bD_ | refine al_ ?_ GE101.out | refine al_ ?_ GE102.out) | exact HB.out)⟩
def ax_.l0 : Nat → List (S43) → List (S43) → Int → Option (Bool)
 | 0, _, _, _ => none
 | k + 1, x0, x1, x5 => if x5 < (x0.length : Int) then (if 0 ≤ x5 then (if x5 < (x1.length : Int) then ((bB_.f ((aj_ x0 x5).f0) ((aj_ x0 x5).f1) ((aj_ x0 x5).f2) ((aj_ x1 x5).f0) ((aj_ x1 x5).f1) ((aj_ x1 x5).f2)).bind fun t103 => (if t103 = true then (ax_.l0 k x0 x1 (wrap64 (x5 + 1))) else (some false))) else (none)) else (none)) else (some true)
def ax_.f (k : Nat) (l0 : List (S43)) (l1 : List (S43)) : Option (Bool) := if (l0.length : Int) = (l1.length : Int) then (ax_.l0 k l0 l1 0) else (some false)
def ax_.T6 : Bool × List (List Nat × List Nat) := (true, [([], []), ([], []), ([0, 1], [0, 1]), ([2], [2]), ([], []), ([], []), ([4, 5], [4, 5]), ([6], [6]), ([3, 7], [3, 7]), ([8], [8])])
def ax_.B6 : List Nat := [0, 0, 3, 7, 0, 0, 48, 112, 255, 511]
theorem ax_.tab6 : rtab .any (opsOf Tryd.f14 6) = ax_.T6 := by kernel_rfl
theorem ax_.bits6 : waitsOk ax_.T6.2 ax_.B6 = true := by kernel_rfl
set_option maxHeartbeats 8000000 in
set_option maxRecDepth 100000 in
theorem ax_.calls (k : Nat) (A0 : Option Addr) (c0 : Nat) (l0 : List (S43)) (A1 : Option Addr) (c1 : Nat) (l1 : List (S43)) (r : Bool) (w : World) (hr0 : Kd.C k43 w A0 l0.length l0) (hc0 : l0.length ≤ c0) (hr1 : Kd.C k43 w A1 l1.length l1) (hc1 : l1.length ≤ c1) (h : ax_.f k l0 l1 = some r) :
  Calls Tryd.prog 14 #[.slice A0 l0.length c0, .slice A1 l1.length c1] w fun e w' => e = .returned (.bool r) ∧ Below w.heap.size w w' := by
 have hu43 := Tryd.underlying43
 have HR0 := Aside0.mk hr0
 have HC0 := Aside0.mk hc0
 clear hr0 hc0
 have HR1 := Aside0.mk hr1
 have HC1 := Aside0.mk hc1
 clear hr1 hc1
 have HB := Aside0.mk (Below.refl w.heap.size w)
 have H : (if (l0.length : Int) = (l1.length : Int) then (ax_.l0 k l0 l1 0) else (some false)) = some r := h
 clear h
 by_cases c3 : (l0.length : Int) = (l1.length : Int)
 rotate_left
 ·rw [if_neg c3] at H
  have c3b0 : ((l0.length : Int) == (l1.length : Int)) = false := beq_eq_false_iff_ne.mpr c3
  have c3b1 : ((l0.length : Int) != (l1.length : Int)) = true := bne_iff_ne.mpr c3
  have c3b2 : (l0.length == l1.length) = false := by first | simpa using c3 | (simp at c3 ⊢; omega)
  obtain rfl := Option.some.inj H
  go_enter Tryd.func14, Tryd.ntmps14
  go_wp2
  go_ret
  exact ⟨by first | rfl | (simp [*, ap_, aq_] <;> rfl), bz HB.out⟩
 rw [if_pos c3] at H
 have c3b0 : ((l0.length : Int) == (l1.length : Int)) = true := beq_iff_eq.mpr c3
 have c3b1 : ((l0.length : Int) != (l1.length : Int)) = false := bne_eq_false_iff_eq.mpr c3
 have c3b2 : (l0.length == l1.length) = true := by first | simpa using c3 | (simp at c3 ⊢; omega)
 clear c3
 have H' := Aside0.mk H
 clear H
 go_enter Tryd.func14, Tryd.ntmps14
 go_wp2
 (try simp only [Act.put, lsa_, ls0_, ls1_])
 go_loopg [5] k (fun kq v5 w' => ∃ (x5_1 : Int), v5 = .int .i64 x5_1 ∧ Aside0 (ax_.l0 kq l0 l1 x5_1 = some r) ∧ Aside0 (kq ≤ k) ∧ Aside0 (Below w.heap.size w w'))
 case atStart => exact ⟨(0), (by first | rfl | (simp; done) | (simp [*]; done)), H', ⟨Nat.le_refl _⟩, ⟨bz HB.out⟩⟩
 case round =>
  clear H'
  obtain ⟨x5_1, rfl, HA, HK1, HB⟩ := hrel
  cases gk with
  | zero => exact absurd HA.out (by simp [ax_.l0])
  | succ k1 =>
   have H := HA.out
   clear HA
   simp only [ax_.l0] at H
   by_cases c4 : x5_1 < (l0.length : Int)
   rotate_left
   ·rw [if_neg c4] at H
    have c4b0 : decide (x5_1 < (l0.length : Int)) = false := decide_eq_false c4
    clear c4
    obtain rfl := Option.some.inj H
    go_wp2
    go_ret
    exact ⟨by first | rfl | (simp [*, ap_, aq_] <;> rfl), bz HB.out⟩
   rw [if_pos c4] at H
   have c4b0 : decide (x5_1 < (l0.length : Int)) = true := decide_eq_true c4
   clear c4
   by_cases c5 : 0 ≤ x5_1
   rotate_left
   ·rw [if_neg c5] at H
    exact absurd H (by simp)
   rw [if_pos c5] at H
   have c5b0 : decide (0 ≤ x5_1) = true := decide_eq_true c5
   clear c5
   by_cases c6 : x5_1 < (l1.length : Int)
   rotate_left
   ·rw [if_neg c6] at H
    exact absurd H (by simp)
   rw [if_pos c6] at H
   have c6b0 : decide (x5_1 < (l1.length : Int)) = true := decide_eq_true c6
   clear c6
   replace H := Option.bind_eq_some_iff.mp H
   obtain ⟨t103, A70, H⟩ := H
   (try dsimp only at H)
   have A7 := Aside0.mk A70
   clear A70
   have HC8 := Aside0.mk H
   clear H
   try go_wp2
   have n0_ := Aside0.mk (bD_ HB.out)
   clear HB
   have HB := n0_
   clear n0_
   have p101 : 0 ≤ (x5_1 : Int) := of_decide_eq_true (by assumption)
   have q101 : x5_1 < (l0.length : Int) := of_decide_eq_true (by assumption)
   obtain ⟨ad101, e101, hx101_0, hx101_1, hx101_2⟩ := bk_ HR0.out x5_1 p101 q101
   have hw101_2 := hx101_2
   have hw101_1 := hx101_1
   have hw101_0 := hx101_0
   cases e101
   replace hx101_0 := (HB.out.cell (bl_ w _ hx101_0)).trans hx101_0
   replace hx101_1 := (HB.out.cell (bl_ w _ hx101_1)).trans hx101_1
   replace hx101_2 := (HB.out.cell (bl_ w _ hx101_2)).trans hx101_2
   replace p101 := eq_true p101
   replace q101 := eq_true q101
   have p102 : 0 ≤ (x5_1 : Int) := of_decide_eq_true (by assumption)
   have q102 : x5_1 < (l1.length : Int) := of_decide_eq_true (by assumption)
   obtain ⟨ad102, e102, hx102_0, hx102_1, hx102_2⟩ := bk_ HR1.out x5_1 p102 q102
   have hw102_2 := hx102_2
   have hw102_1 := hx102_1
   have hw102_0 := hx102_0
   cases e102
   replace hx102_0 := (HB.out.cell (bl_ w _ hx102_0)).trans hx102_0
   replace hx102_1 := (HB.out.cell (bl_ w _ hx102_1)).trans hx102_1
   replace hx102_2 := (HB.out.cell (bl_ w _ hx102_2)).trans hx102_2
   replace p102 := eq_true p102
   replace q102 := eq_true q102
   refine start_ (n := 10) (S := fun w' => w'.cell? (ad101.add ((x5_1).toNat * 3)) = some (.string ((aj_ l0 x5_1).f0)) ∧ w'.cell? ⟨(ad101.add ((x5_1).toNat * 3)).block, (ad101.add ((x5_1).toNat * 3)).off + 1, none⟩ = some (.string ((aj_ l0 x5_1).f1)) ∧ w'.cell? ⟨(ad101.add ((x5_1).toNat * 3)).block, (ad101.add ((x5_1).toNat * 3)).off + 2, none⟩ = some (.string ((aj_ l0 x5_1).f2)) ∧ w'.cell? (ad102.add ((x5_1).toNat * 3)) = some (.string ((aj_ l1 x5_1).f0)) ∧ w'.cell? ⟨(ad102.add ((x5_1).toNat * 3)).block, (ad102.add ((x5_1).toNat * 3)).off + 1, none⟩ = some (.string ((aj_ l1 x5_1).f1)) ∧ w'.cell? ⟨(ad102.add ((x5_1).toNat * 3)).block, (ad102.add ((x5_1).toNat * 3)).off + 2, none⟩ = some (.string ((aj_ l1 x5_1).f2))) (ds := []) #[f_,f_,f_,f_,f_,f_,f_,f_,f_,f_] (by kernel_rfl) rfl rfl ⟨((HB.out.cell (bl_ w _ hw101_0)).trans hw101_0), ((HB.out.cell (bl_ w _ hw101_1)).trans hw101_1), ((HB.out.cell (bl_ w _ hw101_2)).trans hw101_2), ((HB.out.cell (bl_ w _ hw102_0)).trans hw102_0), ((HB.out.cell (bl_ w _ hw102_1)).trans hw102_1), ((HB.out.cell (bl_ w _ hw102_2)).trans hw102_2)⟩ (fun hHeld => ?_); refine bE_ ax_.tab6 ax_.bits6 (fun HT_ HW_ => ?_)
   generalize wr.drew = w9 at HB hx101_0 hx101_1 hx101_2 hx102_0 hx102_1 hx102_2 hHeld ⊢
   refine pure_ (i := 0) (N := some 17) (v := ?_) (a' := ?_) #[t_,f_,f_,f_,f_,f_,f_,f_,f_,f_] rfl rfl (aD_ HT_.out (by kernel_rfl)) (fun _ _ _ h => h) (Or.inl ⟨by rfl, ?_⟩) ?_ ?_
   rotate_left
   ·intro w'
    go_simp
    with_reducible rfl
   rotate_left
   ·simp only [Act.put, lsa_, ls0_, ls1_, i64_w, i32_w]
    rfl
   refine pure_ (i := 1) (N := some 18) (v := ?_) (a' := ?_) #[t_,t_,f_,f_,f_,f_,f_,f_,f_,f_] rfl rfl (aD_ HT_.out (by kernel_rfl)) (fun _ _ _ h => h) (Or.inl ⟨by rfl, ?_⟩) ?_ ?_
   rotate_left
   ·intro w'
    go_simp
    with_reducible rfl
   rotate_left
   ·simp only [Act.put, lsa_, ls0_, ls1_, i64_w, i32_w]
    rfl
   refine pure_ (i := 2) (N := some 19) (v := ?_) (a' := ?_) #[t_,t_,t_,f_,f_,f_,f_,f_,f_,f_] rfl rfl (aD_ HT_.out (by kernel_rfl)) (fun _ _ _ h => h) (Or.inl ⟨by rfl, ?_⟩) ?_ ?_
   rotate_left
   ·intro w'
    go_simp
    with_reducible rfl
   rotate_left
   ·simp only [Act.put, lsa_, ls0_, ls1_, i64_w, i32_w]
    rfl
   refine pure_ (i := 4) (N := some 21) (v := ?_) (a' := ?_) #[t_,t_,t_,f_,t_,f_,f_,f_,f_,f_] rfl rfl (aD_ HT_.out (by kernel_rfl)) (fun _ _ _ h => h) (Or.inl ⟨by rfl, ?_⟩) ?_ ?_
   rotate_left
   ·intro w'
    go_simp
    with_reducible rfl
   rotate_left
   ·simp only [Act.put, lsa_, ls0_, ls1_, i64_w, i32_w]
    rfl
   refine pure_ (i := 5) (N := some 22) (v := ?_) (a' := ?_) #[t_,t_,t_,f_,t_,t_,f_,f_,f_,f_] rfl rfl (aD_ HT_.out (by kernel_rfl)) (fun _ _ _ h => h) (Or.inl ⟨by rfl, ?_⟩) ?_ ?_
   rotate_left
   ·intro w'
    go_simp
    with_reducible rfl
   rotate_left
   ·simp only [Act.put, lsa_, ls0_, ls1_, i64_w, i32_w]
    rfl
   refine pure_ (i := 6) (N := some 23) (v := ?_) (a' := ?_) #[t_,t_,t_,f_,t_,t_,t_,f_,f_,f_] rfl rfl (aD_ HT_.out (by kernel_rfl)) (fun _ _ _ h => h) (Or.inl ⟨by rfl, ?_⟩) ?_ ?_
   rotate_left
   ·intro w'
    go_simp
    with_reducible rfl
   rotate_left
   ·simp only [Act.put, lsa_, ls0_, ls1_, i64_w, i32_w]
    rfl
   refine take_ (i := 3) (N := some 20) (v := ?_) (a' := ?_) #[t_,t_,t_,t_,t_,t_,t_,f_,f_,f_] rfl rfl (bI_ HT_.out HW_.out (by kernel_rfl)) (fun _ _ _ h => h) (Or.inl ⟨by rfl, ?_⟩) hHeld ?_ ?_
   rotate_left
   ·rintro w' ⟨s0, s1, s2, s3, s4, s5⟩
    go_simp
    with_reducible rfl
   rotate_left
   ·simp only [Act.put, lsa_, ls0_, ls1_, i64_w, i32_w]
    rfl
   refine take_ (i := 7) (N := some 24) (v := ?_) (a' := ?_) #[t_,t_,t_,t_,t_,t_,t_,t_,f_,f_] rfl rfl (bI_ HT_.out HW_.out (by kernel_rfl)) (fun _ _ _ h => h) (Or.inl ⟨by rfl, ?_⟩) hHeld ?_ ?_
   rotate_left
   ·rintro w' ⟨s0, s1, s2, s3, s4, s5⟩
    go_simp
    with_reducible rfl
   rotate_left
   ·simp only [Act.put, lsa_, ls0_, ls1_, i64_w, i32_w]
    rfl
   refine one_ (i := 8) (N := some 25) #[t_,t_,t_,t_,t_,t_,t_,t_,t_,f_] rfl rfl (one_of HT_.out (by kernel_rfl)) (by decide) (fun K hK => ?_)
   (first | refine goes_ Tryd.func37 (by kernel_rfl) rfl #[.agg #[.string ((aj_ l0 x5_1).f0), .string ((aj_ l0 x5_1).f1), .string ((aj_ l0 x5_1).f2)], .agg #[.string ((aj_ l1 x5_1).f0), .string ((aj_ l1 x5_1).f1), .string ((aj_ l1 x5_1).f2)]] (by rfl) rfl rfl (by first | rfl | (simp only [List.map_toArray, List.map_cons, List.map_nil]; first | done | rfl)) ?_ | refine RPW.goesV_ Tryd.func37 (by kernel_rfl) rfl #[.agg #[.string ((aj_ l0 x5_1).f0), .string ((aj_ l0 x5_1).f1), .string ((aj_ l0 x5_1).f2)], .agg #[.string ((aj_ l1 x5_1).f0), .string ((aj_ l1 x5_1).f1), .string ((aj_ l1 x5_1).f2)]] (by rfl) rfl rfl rfl (by first | rfl | (simp only [List.map_toArray, List.map_cons, List.map_nil]; first | done | rfl)) ?_ | refine RPW.goesC_ Tryd.func37 (by kernel_rfl) rfl #[.agg #[.string ((aj_ l0 x5_1).f0), .string ((aj_ l0 x5_1).f1), .string ((aj_ l0 x5_1).f2)], .agg #[.string ((aj_ l1 x5_1).f0), .string ((aj_ l1 x5_1).f1), .string ((aj_ l1 x5_1).f2)]] (by rfl) rfl rfl rfl (by first | rfl | (simp only [List.map_toArray, List.map_cons, List.map_nil]; first | done | rfl)) ?_)
   with_reducible refine (bB_.calls ((aj_ l0 x5_1).f0) ((aj_ l0 x5_1).f1) ((aj_ l0 x5_1).f2) ((aj_ l1 x5_1).f0) ((aj_ l1 x5_1).f1) ((aj_ l1 x5_1).f2) t103 _ A7.out).mono ?_
   rintro e w10 ⟨rfl, hb⟩
   refine ⟨_, rfl, ?_⟩
   have n0_ := Aside0.mk (au_ (bz HB.out) hb)
   clear HB
   have HB := n0_
   clear n0_
   (try clear hb)
   refine hK.out _ _ ⟨((HB.out.cell (bl_ w _ hw101_0)).trans hw101_0), ((HB.out.cell (bl_ w _ hw101_1)).trans hw101_1), ((HB.out.cell (bl_ w _ hw101_2)).trans hw101_2), ((HB.out.cell (bl_ w _ hw102_0)).trans hw102_0), ((HB.out.cell (bl_ w _ hw102_1)).trans hw102_1), ((HB.out.cell (bl_ w _ hw102_2)).trans hw102_2)⟩ (fun hHeld => ?_)
   clear hK K
   refine norm_ (a' := ?_) ?_ ?_
   rotate_left
   ·show Act.put _ (some 25) _ = _
    simp only [Act.put, lsa_, ls0_, ls1_, i64_w, i32_w]
    rfl
   refine pure_ (i := 9) (N := some 26) (v := ?_) (a' := ?_) #[t_,t_,t_,t_,t_,t_,t_,t_,t_,t_] rfl rfl (aD_ HT_.out (by kernel_rfl)) (fun _ _ _ h => h) (Or.inl ⟨by rfl, ?_⟩) ?_ ?_
   rotate_left
   ·intro w'
    go_simp
    with_reducible rfl
   rotate_left
   ·simp only [Act.put, lsa_, ls0_, ls1_, i64_w, i32_w]
    rfl
   refine done_ (done_of HT_.out (by kernel_rfl)) ?_
   go_upto_if 26 with (fail)
   have H := HC8.out
   clear HC8
   by_cases c11 : t103 = true
   rotate_left
   ·replace c11 := Bool.eq_false_iff.mpr c11
    subst c11
    have H1 : (some false) = some r := by rw [if_neg (show ¬ (false = true) by decide)] at H; exact H
    clear H
    have H := H1
    clear H1
    obtain rfl := Option.some.inj H
    go_wp2
    go_ret
    exact ⟨by first | rfl | (simp [*, ap_, aq_] <;> rfl), bz HB.out⟩
   subst c11
   have H1 : (ax_.l0 k1 l0 l1 (wrap64 (x5_1 + 1))) = some r := by rw [if_pos rfl] at H; exact H
   clear H
   have H := H1
   clear H1
   have H' := Aside0.mk H
   clear H
   go_wp2
   go_roundg k1
   case measure => have := HK1.out; omega
   case rel => exact ⟨(wrap64 (x5_1 + 1)), (by first | rfl | (simp; done) | (simp [*]; done)), H', ⟨by have := HK1.out; omega⟩, ⟨bz HB.out⟩⟩
def aB_.l0 : Nat → Int → ByteArray → Option (ByteArray)
 | 0, _, _ => none
 | k + 1, x0, x3 => if x0 > 0 then ((some (([(wrap64 (48 + (Int.tmod x0 10))) % 256] : List Int) : List Int)).bind fun y101 => (if (strOfNums y101).size + x3.size ≤ 9223372036854775807 then (aB_.l0 k (wrap64 (Int.tdiv x0 10)) ((strOfNums y101) ++ x3)) else (none))) else (if 1 + x3.size ≤ 9223372036854775807 then (some ((⟨#[109]⟩ : ByteArray) ++ x3)) else (none))
def aB_.f (k : Nat) (a0 : Int) : Option (ByteArray) := if a0 ≤ 0 then (some (⟨#[109, 48]⟩ : ByteArray)) else (aB_.l0 k a0 (⟨#[]⟩ : ByteArray))
set_option maxHeartbeats 8000000 in
set_option maxRecDepth 100000 in
theorem aB_.calls (k : Nat) (a0 : Int) (r : ByteArray) (w : World) (h : aB_.f k a0 = some r) :
  Calls Tryd.prog 38 #[.int .i64 a0] w fun e w' => e = .returned (.string r) ∧ Below w.heap.size w w' := by
 have HB := Aside0.mk (Below.refl w.heap.size w)
 have H : (if a0 ≤ 0 then (some (⟨#[109, 48]⟩ : ByteArray)) else (aB_.l0 k a0 (⟨#[]⟩ : ByteArray))) = some r := h
 clear h
 by_cases c2 : a0 ≤ 0
 rotate_left
 ·rw [if_neg c2] at H
  have c2b0 : decide (a0 ≤ 0) = false := decide_eq_false c2
  clear c2
  have H' := Aside0.mk H
  clear H
  go_enter Tryd.func38, Tryd.ntmps38
  go_wp2
  (try simp only [Act.put, lsa_, ls0_, ls1_])
  go_loopg [0, 3] k (fun kq v0 v3 w' => ∃ (x0_1 : Int) (x3_1 : ByteArray), v0 = .int .i64 x0_1 ∧ v3 = .string x3_1 ∧ Aside0 (aB_.l0 kq x0_1 x3_1 = some r) ∧ Aside0 (kq ≤ k) ∧ Aside0 (Below w.heap.size w w'))
  case atStart => exact ⟨(a0), ((⟨#[]⟩ : ByteArray)), (by first | rfl | (simp; done) | (simp [*]; done)), (by first | rfl | (simp; done) | (simp [*]; done)), H', ⟨Nat.le_refl _⟩, ⟨bz HB.out⟩⟩
  case round =>
   clear H'
   obtain ⟨x0_1, x3_1, rfl, rfl, HA, HK1, HB⟩ := hrel
   cases gk with
   | zero => exact absurd HA.out (by simp [aB_.l0])
   | succ k1 =>
    have H := HA.out
    clear HA
    simp only [aB_.l0] at H
    by_cases c3 : x0_1 > 0
    rotate_left
    ·rw [if_neg c3] at H
     have c3b0 : decide (0 < x0_1) = false := decide_eq_false c3
     clear c3
     by_cases c8 : 1 + x3_1.size ≤ 9223372036854775807
     rotate_left
     ·rw [if_neg c8] at H
      exact absurd H (by simp)
     rw [if_pos c8] at H
     have c8b0 := eq_true c8
     have c8b1 : decide (1 + x3_1.size ≤ 9223372036854775807) = true := decide_eq_true c8
     try have c8b2 : (9223372036854775807 < 1 + x3_1.size) = False := eq_false (Nat.not_lt.2 c8)
     obtain rfl := Option.some.inj H
     go_wp2
     go_ret
     exact ⟨by first | rfl | (simp [*, ap_, aq_] <;> rfl), bz HB.out⟩
    rw [if_pos c3] at H
    have c3b0 : decide (0 < x0_1) = true := decide_eq_true c3
    clear c3
    obtain ⟨y101, hy101⟩ : ∃ y_ : List Int, y_ = (([(wrap64 (48 + (Int.tmod x0_1 10))) % 256] : List Int)) := ⟨_, rfl⟩
    replace H : (if (strOfNums y101).size + x3_1.size ≤ 9223372036854775807 then (aB_.l0 k1 (wrap64 (Int.tdiv x0_1 10)) ((strOfNums y101) ++ x3_1)) else (none)) = some r := by first | (rw [hy101]; with_reducible exact H) | (have H2_ := (Option.bind_some _ _).symm.trans H; rw [hy101]; with_reducible exact H2_) | (have H2_ := (Option.bind_some _ _).symm.trans H; with_reducible exact H2_) | with_reducible exact H | (rw [hy101]; exact H) | exact H
    have Ny101 := Aside0.mk hy101
    clear hy101
    by_cases c4 : (strOfNums y101).size + x3_1.size ≤ 9223372036854775807
    rotate_left
    ·rw [if_neg c4] at H
     exact absurd H (by simp)
    rw [if_pos c4] at H
    have c4b0 := eq_true c4
    have c4b1 : decide ((strOfNums y101).size + x3_1.size ≤ 9223372036854775807) = true := decide_eq_true c4
    try have c4b2 : (9223372036854775807 < (strOfNums y101).size + x3_1.size) = False := eq_false (Nat.not_lt.2 c4)
    have H' := Aside0.mk H
    clear H
    go_wp2_with (first | ((with_reducible refine bn_ (N := 12) rfl ?_); refine Kd.R_lit (Kd.int .u8) _ 5 ?hg (N := 12) ?hd (xs := ([(wrap64 (48 + (Int.tmod x0_1 10))) % 256] : List Int)) (inner := [.int .u8 ((wrap64 (48 + (Int.tmod x0_1 10))) % 256)]) (ok := fun _ => True) (okp := fun _ => True) ?hr ?hp (fun _ hk => hk) trivial (Below.refl _ _) (Nat.le_refl _) (by simp) ?_; (case hd => rfl); (case hg => rfl); (case hr => (go_simp; try rfl)); (case hp => exact (Reps.one (show Kd.M (Kd.int .u8) _ _ _ ((wrap64 (48 + (Int.tmod x0_1 10))) % 256) [.int .u8 ((wrap64 (48 + (Int.tmod x0_1 10))) % 256)] from rfl) (Reps.none _ _))); intro v102 w5 ho6 hb hg_ hnew_; clear hg_ hnew_; (first | rw [← Ny101.out] at ho6 | (simp only [Int.reduceToNat] at ho6; rw [← Ny101.out] at ho6)); have HO103 := Aside0.mk (Kd.bw_ ho6 (aw_ (bz HB.out))); replace HB := Aside0.mk (au_ (bz HB.out) hb); clear hb ho6; have hcv7 := own_string (P := Tryd.prog) Tryd.underlying33 Tryd.underlying5 Tryd.underlying9 (Kd.own_of_R HO103.out)))
    go_roundg k1
    case measure => have := HK1.out; omega
    case rel => exact ⟨(wrap64 (Int.tdiv x0_1 10)), ((strOfNums y101) ++ x3_1), (by first | rfl | (simp; done) | (simp [*]; done)), (by first | rfl | (simp; done) | (simp [*]; done)), H', ⟨by have := HK1.out; omega⟩, ⟨bz HB.out⟩⟩
 rw [if_pos c2] at H
 have c2b0 : decide (a0 ≤ 0) = true := decide_eq_true c2
 clear c2
 obtain rfl := Option.some.inj H
 go_enter Tryd.func38, Tryd.ntmps38
 go_wp2
 go_ret
 exact ⟨by first | rfl | (simp [*, ap_, aq_] <;> rfl), bz HB.out⟩
def aH_.l0 : Nat → List (S43) → Int → Int → Option (Int × (List (S43)))
 | 0, _, _, _ => none
 | k + 1, x0, x1, x5 => if x5 < (x0.length : Int) then ((aB_.f k x1).bind fun t101 => (if 0 ≤ x5 then ((some (x0.set (x5 : Int).toNat (⟨t101, (aj_ x0 x5).f1, (aj_ x0 x5).f2⟩ : S43) : List (S43))).bind fun y102 => ((aB_.f k (wrap64 (x1 + 1))).bind fun t103 => ((some (y102.set (x5 : Int).toNat (⟨(aj_ y102 x5).f0, t103, (aj_ y102 x5).f2⟩ : S43) : List (S43))).bind fun y104 => ((aB_.f k (wrap64 ((wrap64 (x1 + 1)) + 1))).bind fun t105 => (aH_.l0 k (y104.set (x5 : Int).toNat (⟨(aj_ y104 x5).f0, (aj_ y104 x5).f1, t105⟩ : S43)) (wrap64 ((wrap64 ((wrap64 (x1 + 1)) + 1)) + 1)) (wrap64 (x5 + 1))))))) else (none))) else (some (x1, x0))
def aH_.f (k : Nat) (l0 : List (S43)) (a1 : Int) : Option (Int × (List (S43))) := aH_.l0 k l0 a1 0
set_option maxHeartbeats 8000000 in
set_option maxRecDepth 100000 in
theorem aH_.calls (k : Nat) (P0_ : Nat → Prop) (u9000_ : Value) (l0 : List (S43)) (a1 : Int) (r1 : Int) (r2 : List (S43)) (w0 w : World) (hB : Below w0.heap.size w0 w) (ho0 : Kd.R k43 43 w w0.heap.size P0_ u9000_ l0) (h : aH_.f k l0 a1 = some (r1, r2)) :
  Calls Tryd.prog 15 #[u9000_, .int .i64 a1] w fun e w' => e = .returned (.int .i64 r1) ∧ Kd.R k43 43 w' w0.heap.size (fun k_ => (P0_ k_ ∨ w.heap.size ≤ k_)) u9000_ r2 ∧ Below w0.heap.size w0 w' ∧ Kept w w' (fun k_ => P0_ k_) := by
 have HO0 := Aside0.mk (show Kd.R k43 43 w w0.heap.size (fun k_ => (P0_ k_ ∨ w.heap.size ≤ k_)) u9000_ l0 from Kd.ba_ ho0 (fun k_ hk => (.inl hk)))
 have HK := Aside0.mk (Kept.refl w (fun k_ => P0_ k_))
 have HW0 := Aside0.mk hB.size
 have HB := Aside0.mk hB
 clear hB
 have H : (aH_.l0 k l0 a1 0) = some (r1, r2) := h
 clear h
 have H' := Aside0.mk H
 clear H
 go_enter Tryd.func15, Tryd.ntmps15
 go_wp2
 (try simp only [Act.put, lsa_, ls0_, ls1_])
 go_loopg [1, 5] k (fun kq v1 v5 w' => ∃ (x0_1 : List (S43)) (x1_1 : Int) (x5_1 : Int), v1 = .int .i64 x1_1 ∧ v5 = .int .i64 x5_1 ∧ Aside0 (aH_.l0 kq x0_1 x1_1 x5_1 = some (r1, r2)) ∧ Aside0 (kq ≤ k) ∧ Aside0 (Kd.R k43 43 w' w0.heap.size (fun k_ => (P0_ k_ ∨ w.heap.size ≤ k_)) u9000_ x0_1) ∧ Aside0 (Kept w w' (fun k_ => P0_ k_)) ∧ Aside0 (Below w0.heap.size w0 w'))
 case atStart => exact ⟨(l0), (a1), (0), (by first | rfl | (simp; done) | (simp [*]; done)), (by first | rfl | (simp; done) | (simp [*]; done)), H', ⟨Nat.le_refl _⟩, ⟨rz HO0.out⟩, ⟨hz HK.out⟩, ⟨bz HB.out⟩⟩
 case round =>
  clear H'
  obtain ⟨x0_1, x1_1, x5_1, rfl, rfl, HA, HK1, HO_0, HK, HB⟩ := hrel
  cases gk with
  | zero => exact absurd HA.out (by simp [aH_.l0])
  | succ k1 =>
   have H := HA.out
   clear HA
   simp only [aH_.l0] at H
   by_cases c3 : x5_1 < (x0_1.length : Int)
   rotate_left
   ·rw [if_neg c3] at H
    have c3b0 : decide (x5_1 < (x0_1.length : Int)) = false := decide_eq_false c3
    clear c3
    simp only [Option.some.injEq, Prod.mk.injEq] at H
    obtain ⟨rfl, rfl⟩ := H
    obtain ⟨Ao21, co21, eo21⟩ := Kd.bc_ HO_0.out
    subst eo21
    go_wp2
    go_ret
    exact ⟨by first | rfl | (simp [*, ap_, aq_] <;> rfl), rz HO_0.out, bz HB.out, hz HK.out⟩
   rw [if_pos c3] at H
   have c3b0 : decide (x5_1 < (x0_1.length : Int)) = true := decide_eq_true c3
   clear c3
   replace H := Option.bind_eq_some_iff.mp H
   obtain ⟨t101, A40, H⟩ := H
   (try dsimp only at H)
   have A4 := Aside0.mk A40
   clear A40
   by_cases c5 : 0 ≤ x5_1
   rotate_left
   ·rw [if_neg c5] at H
    exact absurd H (by simp)
   rw [if_pos c5] at H
   have c5b0 : decide (0 ≤ x5_1) = true := decide_eq_true c5
   clear c5
   obtain ⟨y102, hy102⟩ : ∃ y_ : List (S43), y_ = (x0_1.set (x5_1 : Int).toNat (⟨t101, (aj_ x0_1 x5_1).f1, (aj_ x0_1 x5_1).f2⟩ : S43)) := ⟨_, rfl⟩
   replace H : ((aB_.f k1 (wrap64 (x1_1 + 1))).bind fun t103 => ((some (y102.set (x5_1 : Int).toNat (⟨(aj_ y102 x5_1).f0, t103, (aj_ y102 x5_1).f2⟩ : S43) : List (S43))).bind fun y104 => ((aB_.f k1 (wrap64 ((wrap64 (x1_1 + 1)) + 1))).bind fun t105 => (aH_.l0 k1 (y104.set (x5_1 : Int).toNat (⟨(aj_ y104 x5_1).f0, (aj_ y104 x5_1).f1, t105⟩ : S43)) (wrap64 ((wrap64 ((wrap64 (x1_1 + 1)) + 1)) + 1)) (wrap64 (x5_1 + 1)))))) = some (r1, r2) := by first | (rw [hy102]; with_reducible exact H) | (have H2_ := (Option.bind_some _ _).symm.trans H; rw [hy102]; with_reducible exact H2_) | (have H2_ := (Option.bind_some _ _).symm.trans H; with_reducible exact H2_) | with_reducible exact H | (rw [hy102]; exact H) | exact H
   have Ny102 := Aside0.mk hy102
   clear hy102
   replace H := Option.bind_eq_some_iff.mp H
   obtain ⟨t103, A70, H⟩ := H
   (try dsimp only at H)
   have A7 := Aside0.mk A70
   clear A70
   obtain ⟨y104, hy104⟩ : ∃ y_ : List (S43), y_ = (y102.set (x5_1 : Int).toNat (⟨(aj_ y102 x5_1).f0, t103, (aj_ y102 x5_1).f2⟩ : S43)) := ⟨_, rfl⟩
   replace H : ((aB_.f k1 (wrap64 ((wrap64 (x1_1 + 1)) + 1))).bind fun t105 => (aH_.l0 k1 (y104.set (x5_1 : Int).toNat (⟨(aj_ y104 x5_1).f0, (aj_ y104 x5_1).f1, t105⟩ : S43)) (wrap64 ((wrap64 ((wrap64 (x1_1 + 1)) + 1)) + 1)) (wrap64 (x5_1 + 1)))) = some (r1, r2) := by first | (rw [hy104]; with_reducible exact H) | (have H2_ := (Option.bind_some _ _).symm.trans H; rw [hy104]; with_reducible exact H2_) | (have H2_ := (Option.bind_some _ _).symm.trans H; with_reducible exact H2_) | with_reducible exact H | (rw [hy104]; exact H) | exact H
   have Ny104 := Aside0.mk hy104
   clear hy104
   replace H := Option.bind_eq_some_iff.mp H
   obtain ⟨t105, A90, H⟩ := H
   (try dsimp only at H)
   have A9 := Aside0.mk A90
   clear A90
   obtain ⟨y106, hy106⟩ : ∃ y_ : List (S43), y_ = (y104.set (x5_1 : Int).toNat (⟨(aj_ y104 x5_1).f0, (aj_ y104 x5_1).f1, t105⟩ : S43)) := ⟨_, rfl⟩
   replace H : (aH_.l0 k1 y106 (wrap64 ((wrap64 ((wrap64 (x1_1 + 1)) + 1)) + 1)) (wrap64 (x5_1 + 1))) = some (r1, r2) := by first | (rw [hy106]; with_reducible exact H) | (have H2_ := (Option.bind_some _ _).symm.trans H; rw [hy106]; with_reducible exact H2_) | (have H2_ := (Option.bind_some _ _).symm.trans H; with_reducible exact H2_) | with_reducible exact H | (rw [hy106]; exact H) | exact H
   have Ny106 := Aside0.mk hy106
   clear hy106
   have H' := Aside0.mk H
   clear H
   obtain ⟨Ao11, co11, eo11⟩ := Kd.bc_ HO_0.out
   subst eo11
   go_wp2_with (first | ((with_reducible refine as_ (f := 38) rfl ?_); refine aY_ (some 15) rfl rfl Tryd.func38 (by kernel_rfl) rfl #[.int .i64 x1_1] rfl (by first | rfl | (simp only [List.map_toArray, List.map_cons, List.map_nil]; first | done | rfl)) ?_; (with_reducible refine (aB_.calls k1 x1_1 t101 _ A4.out).mono ?_); rintro e w12 ⟨rfl, hb⟩; refine ⟨_, rfl, ?_⟩; replace HO_0 := Aside0.mk (Kd.aZ_ (rz HO_0.out) hb); replace HK := Aside0.mk (Kept.below (S := (fun k_ => P0_ k_)) (hz HK.out) hb); replace HB := Aside0.mk (au_ (bz HB.out) hb); (try clear hb); have p6 : 0 ≤ (x5_1 : Int) := of_decide_eq_true (by assumption); have q6 : (x5_1 : Int) < ((x0_1.length : Int) : Int) := of_decide_eq_true (by assumption); obtain ⟨go6, co6, eo6, gb6, gl6, cl6, HG6⟩ := Kd.R_form HO_0.out (by omega); (first | cases eo6 | (injection eo6 with ea_ en_ ec_; (first | subst ea_ | (injection ea_ with ea_; subst ea_)); subst ec_; clear en_)); have GB6 := Aside0.mk gb6; have GG6 := Aside0.mk HG6; clear gb6 gl6 HG6; have HMgo6 := Aside0.mk (show (P0_ go6 ∨ w.heap.size ≤ go6) from (HO_0.out.1 _ rfl)); obtain ⟨ce6, hcl6, hM6, hcc6, hfr6⟩ := Kd.R_elem HO_0.out z43 (x5_1 : Int) p6 q6; obtain rfl := k43_openM hM6; have hx6_0 : w12.cell? ⟨go6, (x5_1 : Int).toNat * 3, none⟩ = some (.string ((aj_ x0_1 x5_1).f0)) := hcc6 0 _ rfl; have hx6_1 : w12.cell? ⟨go6, (x5_1 : Int).toNat * 3 + 1, none⟩ = some (.string ((aj_ x0_1 x5_1).f1)) := hcc6 1 _ rfl; have hx6_2 : w12.cell? ⟨go6, (x5_1 : Int).toNat * 3 + 2, none⟩ = some (.string ((aj_ x0_1 x5_1).f2)) := hcc6 2 _ rfl; have hf6_0 : w12.frozen? ⟨go6, (x5_1 : Int).toNat * 3, none⟩ = false := hfr6 0; have hf6_1 : w12.frozen? ⟨go6, (x5_1 : Int).toNat * 3 + 1, none⟩ = false := hfr6 1; have hf6_2 : w12.frozen? ⟨go6, (x5_1 : Int).toNat * 3 + 2, none⟩ = false := hfr6 2; clear hcl6 hcc6 hfr6 hM6; replace p6 := eq_true p6; replace q6 := eq_true q6; have HX13 := Aside0.mk (show Kd.R k43 43 w12 w0.heap.size (fun k_ => (P0_ k_ ∨ w.heap.size ≤ k_)) (.slice (some ⟨go6, 0, none⟩) x0_1.length co11) x0_1 from (rz HO_0.out)); obtain ⟨ce13, hcl13, hM13, hcc13, hfr13⟩ := Kd.R_elem HX13.out z43 (x5_1 : Int) (of_decide_eq_true (by assumption)) (by have h_ : (x5_1 : Int) < ((x0_1.length : Int) : Int) := of_decide_eq_true (by assumption); first | exact h_ | (have e_ := (Kd.ay_ HO_0.out).1; omega) | simpa using h_); obtain rfl := k43_openM hM13; have HP13 := Kd.R_seg HX13.out (x5_1 : Int) (of_decide_eq_true (by assumption)) (by have h_ : (x5_1 : Int) < ((x0_1.length : Int) : Int) := of_decide_eq_true (by assumption); first | exact h_ | (have e_ := (Kd.ay_ HO_0.out).1; omega) | simpa using h_) (seg := [.string t101]) (j := 0) hcl13 hcc13 (show 1 ≤ 3 from by decide) (x' := (⟨t101, (aj_ x0_1 x5_1).f1, (aj_ x0_1 x5_1).f2⟩ : S43)) (k43_mkM _ _ _ (⟨t101, (aj_ x0_1 x5_1).f1, (aj_ x0_1 x5_1).f2⟩ : S43) ) (fun _ hk => hk); have hx13_0 := hcc13 0 _ rfl; (try simp only [show (k43).sz = 3 from rfl, Nat.mul_one, Nat.add_zero] at hx13_0); have hf13_0 := hfr13 0; (try simp only [show (k43).sz = 3 from rfl, Nat.mul_one, Nat.add_zero] at hf13_0); clear hcl13 hcc13 hfr13 hM13) | ((with_reducible refine gate_store (t := 9) (p := 17) rfl ?_); refine store_event (t := 9) (p := 17) (v := ?vo_w14) (w1 := (w12.setCell ⟨go6, (x5_1 : Int).toNat * 3, none⟩ (.string t101))) ?hg ?ho ?hn ?hr ?_; (case ho => rfl); (case hg => rfl); (case hn => rfl); (case hr => (go_simp; try rfl)); intro w14 hw; have hg : w12.grownBy w14 (some go6) := (by rw [hw]; exact HP13.2); have hp_ : Kd.R k43 43 w14 w0.heap.size (fun k_ => (P0_ k_ ∨ w.heap.size ≤ k_)) (.slice (some ⟨go6, 0, none⟩) x0_1.length co11) y102 := (by rw [hw, Ny102.out]; exact HP13.1); clear HP13; replace HB := Aside0.mk ((by rw [hw]; exact al_ (HB.out) GB6.out : Below w0.heap.size w0 w14)); replace HK := Aside0.mk (Kept.of_grown (S := (fun k_ => P0_ k_)) hg (hz HK.out) (fun k_ e_ => (HO_0.out.1 k_ e_))); replace HO_0 := Aside0.mk (hp_); clear hg hw hp_) | ((with_reducible refine as_ (f := 38) rfl ?_); refine aY_ (some 23) rfl rfl Tryd.func38 (by kernel_rfl) rfl #[.int .i64 (wrap64 (x1_1 + 1))] rfl (by first | rfl | (simp only [List.map_toArray, List.map_cons, List.map_nil]; first | done | rfl)) ?_; (with_reducible refine (aB_.calls k1 (wrap64 (x1_1 + 1)) t103 _ A7.out).mono ?_); rintro e w15 ⟨rfl, hb⟩; refine ⟨_, rfl, ?_⟩; replace HO_0 := Aside0.mk (Kd.aZ_ (rz HO_0.out) hb); replace HK := Aside0.mk (Kept.below (S := (fun k_ => P0_ k_)) (hz HK.out) hb); replace HB := Aside0.mk (au_ (bz HB.out) hb); (try clear hb); have p8 : 0 ≤ (x5_1 : Int) := of_decide_eq_true (by assumption); have q8 : (x5_1 : Int) < ((x0_1.length : Int) : Int) := of_decide_eq_true (by assumption); obtain ⟨ce8, hcl8, hM8, hcc8, hfr8⟩ := Kd.R_elem HO_0.out z43 (x5_1 : Int) p8 q8; obtain rfl := k43_openM hM8; have hx8_0 : w15.cell? ⟨go6, (x5_1 : Int).toNat * 3, none⟩ = some (.string ((aj_ y102 x5_1).f0)) := hcc8 0 _ rfl; have hx8_1 : w15.cell? ⟨go6, (x5_1 : Int).toNat * 3 + 1, none⟩ = some (.string ((aj_ y102 x5_1).f1)) := hcc8 1 _ rfl; have hx8_2 : w15.cell? ⟨go6, (x5_1 : Int).toNat * 3 + 2, none⟩ = some (.string ((aj_ y102 x5_1).f2)) := hcc8 2 _ rfl; have hf8_0 : w15.frozen? ⟨go6, (x5_1 : Int).toNat * 3, none⟩ = false := hfr8 0; have hf8_1 : w15.frozen? ⟨go6, (x5_1 : Int).toNat * 3 + 1, none⟩ = false := hfr8 1; have hf8_2 : w15.frozen? ⟨go6, (x5_1 : Int).toNat * 3 + 2, none⟩ = false := hfr8 2; clear hcl8 hcc8 hfr8 hM8; replace p8 := eq_true p8; replace q8 := eq_true q8; have HX16 := Aside0.mk (show Kd.R k43 43 w15 w0.heap.size (fun k_ => (P0_ k_ ∨ w.heap.size ≤ k_)) (.slice (some ⟨go6, 0, none⟩) x0_1.length co11) y102 from (rz HO_0.out)); obtain ⟨ce16, hcl16, hM16, hcc16, hfr16⟩ := Kd.R_elem HX16.out z43 (x5_1 : Int) (of_decide_eq_true (by assumption)) (by have h_ : (x5_1 : Int) < ((x0_1.length : Int) : Int) := of_decide_eq_true (by assumption); first | exact h_ | (have e_ := (Kd.ay_ HO_0.out).1; omega) | simpa using h_); obtain rfl := k43_openM hM16; have HP16 := Kd.R_seg HX16.out (x5_1 : Int) (of_decide_eq_true (by assumption)) (by have h_ : (x5_1 : Int) < ((x0_1.length : Int) : Int) := of_decide_eq_true (by assumption); first | exact h_ | (have e_ := (Kd.ay_ HO_0.out).1; omega) | simpa using h_) (seg := [.string t103]) (j := 1) hcl16 hcc16 (show 2 ≤ 3 from by decide) (x' := (⟨(aj_ y102 x5_1).f0, t103, (aj_ y102 x5_1).f2⟩ : S43)) (k43_mkM _ _ _ (⟨(aj_ y102 x5_1).f0, t103, (aj_ y102 x5_1).f2⟩ : S43) ) (fun _ hk => hk); have hx16_1 := hcc16 1 _ rfl; (try simp only [show (k43).sz = 3 from rfl, Nat.mul_one, Nat.add_zero] at hx16_1); have hf16_1 := hfr16 1; (try simp only [show (k43).sz = 3 from rfl, Nat.mul_one, Nat.add_zero] at hf16_1); clear hcl16 hcc16 hfr16 hM16) | ((with_reducible refine gate_store (t := 9) (p := 25) rfl ?_); refine store_event (t := 9) (p := 25) (v := ?vo_w17) (w1 := (w15.setCell ⟨go6, (x5_1 : Int).toNat * 3 + 1, none⟩ (.string t103))) ?hg ?ho ?hn ?hr ?_; (case ho => rfl); (case hg => rfl); (case hn => rfl); (case hr => (go_simp; try rfl)); intro w17 hw; have hg : w15.grownBy w17 (some go6) := (by rw [hw]; exact HP16.2); have hp_ : Kd.R k43 43 w17 w0.heap.size (fun k_ => (P0_ k_ ∨ w.heap.size ≤ k_)) (.slice (some ⟨go6, 0, none⟩) x0_1.length co11) y104 := (by rw [hw, Ny104.out]; exact HP16.1); clear HP16; replace HB := Aside0.mk ((by rw [hw]; exact al_ (HB.out) GB6.out : Below w0.heap.size w0 w17)); replace HK := Aside0.mk (Kept.of_grown (S := (fun k_ => P0_ k_)) hg (hz HK.out) (fun k_ e_ => (HO_0.out.1 k_ e_))); replace HO_0 := Aside0.mk (hp_); clear hg hw hp_) | ((with_reducible refine as_ (f := 38) rfl ?_); refine aY_ (some 31) rfl rfl Tryd.func38 (by kernel_rfl) rfl #[.int .i64 (wrap64 ((wrap64 (x1_1 + 1)) + 1))] rfl (by first | rfl | (simp only [List.map_toArray, List.map_cons, List.map_nil]; first | done | rfl)) ?_; (with_reducible refine (aB_.calls k1 (wrap64 ((wrap64 (x1_1 + 1)) + 1)) t105 _ A9.out).mono ?_); rintro e w18 ⟨rfl, hb⟩; refine ⟨_, rfl, ?_⟩; replace HO_0 := Aside0.mk (Kd.aZ_ (rz HO_0.out) hb); replace HK := Aside0.mk (Kept.below (S := (fun k_ => P0_ k_)) (hz HK.out) hb); replace HB := Aside0.mk (au_ (bz HB.out) hb); (try clear hb); have p10 : 0 ≤ (x5_1 : Int) := of_decide_eq_true (by assumption); have q10 : (x5_1 : Int) < ((x0_1.length : Int) : Int) := of_decide_eq_true (by assumption); obtain ⟨ce10, hcl10, hM10, hcc10, hfr10⟩ := Kd.R_elem HO_0.out z43 (x5_1 : Int) p10 q10; obtain rfl := k43_openM hM10; have hx10_0 : w18.cell? ⟨go6, (x5_1 : Int).toNat * 3, none⟩ = some (.string ((aj_ y104 x5_1).f0)) := hcc10 0 _ rfl; have hx10_1 : w18.cell? ⟨go6, (x5_1 : Int).toNat * 3 + 1, none⟩ = some (.string ((aj_ y104 x5_1).f1)) := hcc10 1 _ rfl; have hx10_2 : w18.cell? ⟨go6, (x5_1 : Int).toNat * 3 + 2, none⟩ = some (.string ((aj_ y104 x5_1).f2)) := hcc10 2 _ rfl; have hf10_0 : w18.frozen? ⟨go6, (x5_1 : Int).toNat * 3, none⟩ = false := hfr10 0; have hf10_1 : w18.frozen? ⟨go6, (x5_1 : Int).toNat * 3 + 1, none⟩ = false := hfr10 1; have hf10_2 : w18.frozen? ⟨go6, (x5_1 : Int).toNat * 3 + 2, none⟩ = false := hfr10 2; clear hcl10 hcc10 hfr10 hM10; replace p10 := eq_true p10; replace q10 := eq_true q10; have HX19 := Aside0.mk (show Kd.R k43 43 w18 w0.heap.size (fun k_ => (P0_ k_ ∨ w.heap.size ≤ k_)) (.slice (some ⟨go6, 0, none⟩) x0_1.length co11) y104 from (rz HO_0.out)); obtain ⟨ce19, hcl19, hM19, hcc19, hfr19⟩ := Kd.R_elem HX19.out z43 (x5_1 : Int) (of_decide_eq_true (by assumption)) (by have h_ : (x5_1 : Int) < ((x0_1.length : Int) : Int) := of_decide_eq_true (by assumption); first | exact h_ | (have e_ := (Kd.ay_ HO_0.out).1; omega) | simpa using h_); obtain rfl := k43_openM hM19; have HP19 := Kd.R_seg HX19.out (x5_1 : Int) (of_decide_eq_true (by assumption)) (by have h_ : (x5_1 : Int) < ((x0_1.length : Int) : Int) := of_decide_eq_true (by assumption); first | exact h_ | (have e_ := (Kd.ay_ HO_0.out).1; omega) | simpa using h_) (seg := [.string t105]) (j := 2) hcl19 hcc19 (show 3 ≤ 3 from by decide) (x' := (⟨(aj_ y104 x5_1).f0, (aj_ y104 x5_1).f1, t105⟩ : S43)) (k43_mkM _ _ _ (⟨(aj_ y104 x5_1).f0, (aj_ y104 x5_1).f1, t105⟩ : S43) ) (fun _ hk => hk); have hx19_2 := hcc19 2 _ rfl; (try simp only [show (k43).sz = 3 from rfl, Nat.mul_one, Nat.add_zero] at hx19_2); have hf19_2 := hfr19 2; (try simp only [show (k43).sz = 3 from rfl, Nat.mul_one, Nat.add_zero] at hf19_2); clear hcl19 hcc19 hfr19 hM19) | ((with_reducible refine gate_store (t := 9) (p := 33) rfl ?_); refine store_event (t := 9) (p := 33) (v := ?vo_w20) (w1 := (w18.setCell ⟨go6, (x5_1 : Int).toNat * 3 + 2, none⟩ (.string t105))) ?hg ?ho ?hn ?hr ?_; (case ho => rfl); (case hg => rfl); (case hn => rfl); (case hr => (go_simp; try rfl)); intro w20 hw; have hg : w18.grownBy w20 (some go6) := (by rw [hw]; exact HP19.2); have hp_ : Kd.R k43 43 w20 w0.heap.size (fun k_ => (P0_ k_ ∨ w.heap.size ≤ k_)) (.slice (some ⟨go6, 0, none⟩) x0_1.length co11) y106 := (by rw [hw, Ny106.out]; exact HP19.1); clear HP19; replace HB := Aside0.mk ((by rw [hw]; exact al_ (HB.out) GB6.out : Below w0.heap.size w0 w20)); replace HK := Aside0.mk (Kept.of_grown (S := (fun k_ => P0_ k_)) hg (hz HK.out) (fun k_ e_ => (HO_0.out.1 k_ e_))); replace HO_0 := Aside0.mk (hp_); clear hg hw hp_))
   go_roundg k1
   case measure => have := HK1.out; omega
   case rel => exact ⟨(y106), (wrap64 ((wrap64 ((wrap64 (x1_1 + 1)) + 1)) + 1)), (wrap64 (x5_1 + 1)), (by first | rfl | (simp; done) | (simp [*]; done)), (by first | rfl | (simp; done) | (simp [*]; done)), H', ⟨by have := HK1.out; omega⟩, ⟨rz HO_0.out⟩, ⟨hz HK.out⟩, ⟨bz HB.out⟩⟩
def ak_.l0 : Nat → List (S43) → Int → Int → Option (Int)
 | 0, _, _, _ => none
 | k + 1, x0, x1, x5 => if x5 < (x0.length : Int) then (if 0 ≤ x5 then ((aB_.f k x1).bind fun t102 => (if ((aj_ x0 x5).f0).toList = t102.toList then ((aB_.f k (wrap64 (x1 + 1))).bind fun t104 => (if ((aj_ x0 x5).f1).toList = t104.toList then ((aB_.f k (wrap64 ((wrap64 (x1 + 1)) + 1))).bind fun t106 => (if ((aj_ x0 x5).f2).toList = t106.toList then (ak_.l0 k x0 (wrap64 ((wrap64 ((wrap64 (x1 + 1)) + 1)) + 1)) (wrap64 (x5 + 1))) else (some (-1)))) else (some (-1)))) else (some (-1)))) else (none)) else (some x1)
def ak_.f (k : Nat) (l0 : List (S43)) (a1 : Int) : Option (Int) := ak_.l0 k l0 a1 0
def ak_.T4 : Bool × List (List Nat × List Nat) := (true, [([], []), ([], []), ([0, 1], [0, 1]), ([2], [2]), ([3], [3]), ([], []), ([5], [5]), ([4, 6], [4, 6])])
def ak_.B4 : List Nat := [0, 0, 3, 7, 15, 0, 32, 127]
theorem ak_.tab4 : rtab .any (opsOf Tryd.f16 4) = ak_.T4 := by kernel_rfl
theorem ak_.bits4 : waitsOk ak_.T4.2 ak_.B4 = true := by kernel_rfl
def ak_.T7 : Bool × List (List Nat × List Nat) := (true, [([], []), ([], []), ([0, 1], [0, 1]), ([2], [2]), ([3], [3]), ([], []), ([5], [5]), ([4, 6], [4, 6])])
def ak_.B7 : List Nat := [0, 0, 3, 7, 15, 0, 32, 127]
theorem ak_.tab7 : rtab .any (opsOf Tryd.f16 7) = ak_.T7 := by kernel_rfl
theorem ak_.bits7 : waitsOk ak_.T7.2 ak_.B7 = true := by kernel_rfl
def ak_.T10 : Bool × List (List Nat × List Nat) := (true, [([], []), ([], []), ([0, 1], [0, 1]), ([2], [2]), ([3], [3]), ([], []), ([5], [5]), ([4, 6], [4, 6])])
def ak_.B10 : List Nat := [0, 0, 3, 7, 15, 0, 32, 127]
theorem ak_.tab10 : rtab .any (opsOf Tryd.f16 10) = ak_.T10 := by kernel_rfl
theorem ak_.bits10 : waitsOk ak_.T10.2 ak_.B10 = true := by kernel_rfl
set_option maxHeartbeats 8000000 in
set_option maxRecDepth 100000 in
theorem ak_.calls (k : Nat) (A0 : Option Addr) (c0 : Nat) (l0 : List (S43)) (a1 : Int) (r : Int) (w : World) (hr0 : Kd.C k43 w A0 l0.length l0) (hc0 : l0.length ≤ c0) (h : ak_.f k l0 a1 = some r) :
  Calls Tryd.prog 16 #[.slice A0 l0.length c0, .int .i64 a1] w fun e w' => e = .returned (.int .i64 r) ∧ Below w.heap.size w w' := by
 have HR0 := Aside0.mk hr0
 have HC0 := Aside0.mk hc0
 clear hr0 hc0
 have HB := Aside0.mk (Below.refl w.heap.size w)
 have H : (ak_.l0 k l0 a1 0) = some r := h
 clear h
 have H' := Aside0.mk H
 clear H
 go_enter Tryd.func16, Tryd.ntmps16
 go_wp2
 (try simp only [Act.put, lsa_, ls0_, ls1_])
 go_loopg [1, 5] k (fun kq v1 v5 w' => ∃ (x1_1 : Int) (x5_1 : Int), v1 = .int .i64 x1_1 ∧ v5 = .int .i64 x5_1 ∧ Aside0 (ak_.l0 kq l0 x1_1 x5_1 = some r) ∧ Aside0 (kq ≤ k) ∧ Aside0 (Below w.heap.size w w'))
 case atStart => exact ⟨(a1), (0), (by first | rfl | (simp; done) | (simp [*]; done)), (by first | rfl | (simp; done) | (simp [*]; done)), H', ⟨Nat.le_refl _⟩, ⟨bz HB.out⟩⟩
 case round =>
  clear H'
  obtain ⟨x1_1, x5_1, rfl, rfl, HA, HK1, HB⟩ := hrel
  cases gk with
  | zero => exact absurd HA.out (by simp [ak_.l0])
  | succ k1 =>
   have H := HA.out
   clear HA
   simp only [ak_.l0] at H
   by_cases c3 : x5_1 < (l0.length : Int)
   rotate_left
   ·rw [if_neg c3] at H
    have c3b0 : decide (x5_1 < (l0.length : Int)) = false := decide_eq_false c3
    clear c3
    obtain rfl := Option.some.inj H
    go_wp2
    go_ret
    exact ⟨by first | rfl | (simp [*, ap_, aq_] <;> rfl), bz HB.out⟩
   rw [if_pos c3] at H
   have c3b0 : decide (x5_1 < (l0.length : Int)) = true := decide_eq_true c3
   clear c3
   by_cases c4 : 0 ≤ x5_1
   rotate_left
   ·rw [if_neg c4] at H
    exact absurd H (by simp)
   rw [if_pos c4] at H
   have c4b0 : decide (0 ≤ x5_1) = true := decide_eq_true c4
   clear c4
   replace H := Option.bind_eq_some_iff.mp H
   obtain ⟨t102, A50, H⟩ := H
   (try dsimp only at H)
   have A5 := Aside0.mk A50
   clear A50
   have HC6 := Aside0.mk H
   clear H
   try go_wp2
   have n0_ := Aside0.mk (bD_ HB.out)
   clear HB
   have HB := n0_
   clear n0_
   have p101 : 0 ≤ (x5_1 : Int) := of_decide_eq_true (by assumption)
   have q101 : x5_1 < (l0.length : Int) := of_decide_eq_true (by assumption)
   obtain ⟨ad101, e101, hx101_0, hx101_1, hx101_2⟩ := bk_ HR0.out x5_1 p101 q101
   have hw101_2 := hx101_2
   have hw101_1 := hx101_1
   have hw101_0 := hx101_0
   cases e101
   replace hx101_0 := (HB.out.cell (bl_ w _ hx101_0)).trans hx101_0
   replace hx101_1 := (HB.out.cell (bl_ w _ hx101_1)).trans hx101_1
   replace hx101_2 := (HB.out.cell (bl_ w _ hx101_2)).trans hx101_2
   replace p101 := eq_true p101
   replace q101 := eq_true q101
   refine start_ (n := 8) (S := fun w' => w'.cell? (ad101.add ((x5_1).toNat * 3)) = some (.string ((aj_ l0 x5_1).f0)) ∧ w'.cell? ⟨(ad101.add ((x5_1).toNat * 3)).block, (ad101.add ((x5_1).toNat * 3)).off + 1, none⟩ = some (.string ((aj_ l0 x5_1).f1)) ∧ w'.cell? ⟨(ad101.add ((x5_1).toNat * 3)).block, (ad101.add ((x5_1).toNat * 3)).off + 2, none⟩ = some (.string ((aj_ l0 x5_1).f2))) (ds := []) #[f_,f_,f_,f_,f_,f_,f_,f_] (by kernel_rfl) rfl rfl ⟨((HB.out.cell (bl_ w _ hw101_0)).trans hw101_0), ((HB.out.cell (bl_ w _ hw101_1)).trans hw101_1), ((HB.out.cell (bl_ w _ hw101_2)).trans hw101_2)⟩ (fun hHeld => ?_); refine bE_ ak_.tab4 ak_.bits4 (fun HT_ HW_ => ?_)
   generalize wr.drew = w7 at HB hx101_0 hx101_1 hx101_2 hHeld ⊢
   refine pure_ (i := 0) (N := some 12) (v := ?_) (a' := ?_) #[t_,f_,f_,f_,f_,f_,f_,f_] rfl rfl (aD_ HT_.out (by kernel_rfl)) (fun _ _ _ h => h) (Or.inl ⟨by rfl, ?_⟩) ?_ ?_
   rotate_left
   ·intro w'
    go_simp
    with_reducible rfl
   rotate_left
   ·simp only [Act.put, lsa_, ls0_, ls1_, i64_w, i32_w]
    rfl
   refine pure_ (i := 1) (N := some 13) (v := ?_) (a' := ?_) #[t_,t_,f_,f_,f_,f_,f_,f_] rfl rfl (aD_ HT_.out (by kernel_rfl)) (fun _ _ _ h => h) (Or.inl ⟨by rfl, ?_⟩) ?_ ?_
   rotate_left
   ·intro w'
    go_simp
    with_reducible rfl
   rotate_left
   ·simp only [Act.put, lsa_, ls0_, ls1_, i64_w, i32_w]
    rfl
   refine pure_ (i := 2) (N := some 14) (v := ?_) (a' := ?_) #[t_,t_,t_,f_,f_,f_,f_,f_] rfl rfl (aD_ HT_.out (by kernel_rfl)) (fun _ _ _ h => h) (Or.inl ⟨by rfl, ?_⟩) ?_ ?_
   rotate_left
   ·intro w'
    go_simp
    with_reducible rfl
   rotate_left
   ·simp only [Act.put, lsa_, ls0_, ls1_, i64_w, i32_w]
    rfl
   refine pure_ (i := 3) (N := some 15) (v := ?_) (a' := ?_) #[t_,t_,t_,t_,f_,f_,f_,f_] rfl rfl (aD_ HT_.out (by kernel_rfl)) (fun _ _ _ h => h) (Or.inl ⟨by rfl, ?_⟩) ?_ ?_
   rotate_left
   ·intro w'
    go_simp
    with_reducible rfl
   rotate_left
   ·simp only [Act.put, lsa_, ls0_, ls1_, i64_w, i32_w]
    rfl
   refine pure_ (i := 5) (N := some 17) (v := ?_) (a' := ?_) #[t_,t_,t_,t_,f_,t_,f_,f_] rfl rfl (aD_ HT_.out (by kernel_rfl)) (fun _ _ _ h => h) (Or.inl ⟨by rfl, ?_⟩) ?_ ?_
   rotate_left
   ·intro w'
    go_simp
    with_reducible rfl
   rotate_left
   ·simp only [Act.put, lsa_, ls0_, ls1_, i64_w, i32_w]
    rfl
   refine take_ (i := 4) (N := some 16) (v := ?_) (a' := ?_) #[t_,t_,t_,t_,t_,t_,f_,f_] rfl rfl (bI_ HT_.out HW_.out (by kernel_rfl)) (fun _ _ _ h => h) (Or.inl ⟨by rfl, ?_⟩) hHeld ?_ ?_
   rotate_left
   ·rintro w' ⟨s0, s1, s2⟩
    go_simp
    with_reducible rfl
   rotate_left
   ·simp only [Act.put, lsa_, ls0_, ls1_, i64_w, i32_w]
    rfl
   refine one_ (i := 6) (N := some 18) #[t_,t_,t_,t_,t_,t_,t_,f_] rfl rfl (one_of HT_.out (by kernel_rfl)) (by decide) (fun K hK => ?_)
   (first | refine goes_ Tryd.func38 (by kernel_rfl) rfl #[.int .i64 x1_1] (by rfl) rfl rfl (by first | rfl | (simp only [List.map_toArray, List.map_cons, List.map_nil]; first | done | rfl)) ?_ | refine RPW.goesV_ Tryd.func38 (by kernel_rfl) rfl #[.int .i64 x1_1] (by rfl) rfl rfl rfl (by first | rfl | (simp only [List.map_toArray, List.map_cons, List.map_nil]; first | done | rfl)) ?_ | refine RPW.goesC_ Tryd.func38 (by kernel_rfl) rfl #[.int .i64 x1_1] (by rfl) rfl rfl rfl (by first | rfl | (simp only [List.map_toArray, List.map_cons, List.map_nil]; first | done | rfl)) ?_)
   with_reducible refine (aB_.calls k1 x1_1 t102 _ A5.out).mono ?_
   rintro e w8 ⟨rfl, hb⟩
   refine ⟨_, rfl, ?_⟩
   have n0_ := Aside0.mk (au_ (bz HB.out) hb)
   clear HB
   have HB := n0_
   clear n0_
   (try clear hb)
   refine hK.out _ _ ⟨((HB.out.cell (bl_ w _ hw101_0)).trans hw101_0), ((HB.out.cell (bl_ w _ hw101_1)).trans hw101_1), ((HB.out.cell (bl_ w _ hw101_2)).trans hw101_2)⟩ (fun hHeld => ?_)
   clear hK K
   refine norm_ (a' := ?_) ?_ ?_
   rotate_left
   ·show Act.put _ (some 18) _ = _
    simp only [Act.put, lsa_, ls0_, ls1_, i64_w, i32_w]
    rfl
   refine pure_ (i := 7) (N := some 19) (v := ?_) (a' := ?_) #[t_,t_,t_,t_,t_,t_,t_,t_] rfl rfl (aD_ HT_.out (by kernel_rfl)) (fun _ _ _ h => h) (Or.inl ⟨by rfl, ?_⟩) ?_ ?_
   rotate_left
   ·intro w'
    go_simp
    with_reducible rfl
   rotate_left
   ·simp only [Act.put, lsa_, ls0_, ls1_, i64_w, i32_w]
    rfl
   refine done_ (done_of HT_.out (by kernel_rfl)) ?_
   go_upto_if 19 with (fail)
   have H := HC6.out
   clear HC6
   by_cases c9 : ((aj_ l0 x5_1).f0).toList = t102.toList
   rotate_left
   ·rw [if_neg c9] at H
    have c9b0 : (((aj_ l0 x5_1).f0).toList == t102.toList) = false := beq_eq_false_iff_ne.mpr c9
    have c9b1 : (((aj_ l0 x5_1).f0).toList != t102.toList) = true := bne_iff_ne.mpr c9
    (first | rw [c9b0] | (simp only [i64_w, i32_w]; rw [c9b0]) | (simp only [c9b1, Bool.not_true, Bool.not_false]) | (simp only [c9b0, Bool.not_true, Bool.not_false]) | skip)
    obtain rfl := Option.some.inj H
    go_wp2
    go_ret
    exact ⟨by first | rfl | (simp [*, ap_, aq_] <;> rfl), bz HB.out⟩
   rw [if_pos c9] at H
   have c9b0 : (((aj_ l0 x5_1).f0).toList == t102.toList) = true := beq_iff_eq.mpr c9
   have c9b1 : (((aj_ l0 x5_1).f0).toList != t102.toList) = false := bne_eq_false_iff_eq.mpr c9
   clear c9
   (first | rw [c9b0] | (simp only [i64_w, i32_w]; rw [c9b0]) | (simp only [c9b1, Bool.not_true, Bool.not_false]) | (simp only [c9b0, Bool.not_true, Bool.not_false]) | skip)
   replace H := Option.bind_eq_some_iff.mp H
   obtain ⟨t104, A100, H⟩ := H
   (try dsimp only at H)
   have A10 := Aside0.mk A100
   clear A100
   have HC11 := Aside0.mk H
   clear H
   try go_wp2
   (try (rw [bq_ w8]; generalize hq_ : World.drewN w8 _ = w8; have n0_ : Aside0 (Below w.heap.size w w8) := ⟨by rw [← hq_]; exact (bz HB.out)⟩; clear HB hq_; have HB := n0_; clear n0_))
   have n0_ := Aside0.mk (bD_ HB.out)
   clear HB
   have HB := n0_
   clear n0_
   have p103 : 0 ≤ (x5_1 : Int) := of_decide_eq_true (by assumption)
   have q103 : x5_1 < (l0.length : Int) := of_decide_eq_true (by assumption)
   obtain ⟨ad103, e103, hx103_0, hx103_1, hx103_2⟩ := bk_ HR0.out x5_1 p103 q103
   have hw103_2 := hx103_2
   have hw103_1 := hx103_1
   have hw103_0 := hx103_0
   obtain rfl : ad101 = ad103 := (by injection e103)
   replace hx103_0 := (HB.out.cell (bl_ w _ hx103_0)).trans hx103_0
   replace hx103_1 := (HB.out.cell (bl_ w _ hx103_1)).trans hx103_1
   replace hx103_2 := (HB.out.cell (bl_ w _ hx103_2)).trans hx103_2
   replace p103 := eq_true p103
   replace q103 := eq_true q103
   refine start_ (n := 8) (S := fun w' => w'.cell? (ad101.add ((x5_1).toNat * 3)) = some (.string ((aj_ l0 x5_1).f0)) ∧ w'.cell? ⟨(ad101.add ((x5_1).toNat * 3)).block, (ad101.add ((x5_1).toNat * 3)).off + 1, none⟩ = some (.string ((aj_ l0 x5_1).f1)) ∧ w'.cell? ⟨(ad101.add ((x5_1).toNat * 3)).block, (ad101.add ((x5_1).toNat * 3)).off + 2, none⟩ = some (.string ((aj_ l0 x5_1).f2))) (ds := []) #[f_,f_,f_,f_,f_,f_,f_,f_] (by kernel_rfl) rfl rfl ⟨((HB.out.cell (bl_ w _ hw103_0)).trans hw103_0), ((HB.out.cell (bl_ w _ hw103_1)).trans hw103_1), ((HB.out.cell (bl_ w _ hw103_2)).trans hw103_2)⟩ (fun hHeld => ?_); refine bE_ ak_.tab7 ak_.bits7 (fun HT_ HW_ => ?_)
   generalize w8.drew = w12 at HB hx103_0 hx103_1 hx103_2 hHeld ⊢
   refine pure_ (i := 0) (N := some 22) (v := ?_) (a' := ?_) #[t_,f_,f_,f_,f_,f_,f_,f_] rfl rfl (aD_ HT_.out (by kernel_rfl)) (fun _ _ _ h => h) (Or.inl ⟨by rfl, ?_⟩) ?_ ?_
   rotate_left
   ·intro w'
    go_simp
    with_reducible rfl
   rotate_left
   ·simp only [Act.put, lsa_, ls0_, ls1_, i64_w, i32_w]
    rfl
   refine pure_ (i := 1) (N := some 23) (v := ?_) (a' := ?_) #[t_,t_,f_,f_,f_,f_,f_,f_] rfl rfl (aD_ HT_.out (by kernel_rfl)) (fun _ _ _ h => h) (Or.inl ⟨by rfl, ?_⟩) ?_ ?_
   rotate_left
   ·intro w'
    go_simp
    with_reducible rfl
   rotate_left
   ·simp only [Act.put, lsa_, ls0_, ls1_, i64_w, i32_w]
    rfl
   refine pure_ (i := 2) (N := some 24) (v := ?_) (a' := ?_) #[t_,t_,t_,f_,f_,f_,f_,f_] rfl rfl (aD_ HT_.out (by kernel_rfl)) (fun _ _ _ h => h) (Or.inl ⟨by rfl, ?_⟩) ?_ ?_
   rotate_left
   ·intro w'
    go_simp
    with_reducible rfl
   rotate_left
   ·simp only [Act.put, lsa_, ls0_, ls1_, i64_w, i32_w]
    rfl
   refine pure_ (i := 3) (N := some 25) (v := ?_) (a' := ?_) #[t_,t_,t_,t_,f_,f_,f_,f_] rfl rfl (aD_ HT_.out (by kernel_rfl)) (fun _ _ _ h => h) (Or.inl ⟨by rfl, ?_⟩) ?_ ?_
   rotate_left
   ·intro w'
    go_simp
    with_reducible rfl
   rotate_left
   ·simp only [Act.put, lsa_, ls0_, ls1_, i64_w, i32_w]
    rfl
   refine pure_ (i := 5) (N := some 27) (v := ?_) (a' := ?_) #[t_,t_,t_,t_,f_,t_,f_,f_] rfl rfl (aD_ HT_.out (by kernel_rfl)) (fun _ _ _ h => h) (Or.inl ⟨by rfl, ?_⟩) ?_ ?_
   rotate_left
   ·intro w'
    go_simp
    with_reducible rfl
   rotate_left
   ·simp only [Act.put, lsa_, ls0_, ls1_, i64_w, i32_w]
    rfl
   refine take_ (i := 4) (N := some 26) (v := ?_) (a' := ?_) #[t_,t_,t_,t_,t_,t_,f_,f_] rfl rfl (bI_ HT_.out HW_.out (by kernel_rfl)) (fun _ _ _ h => h) (Or.inl ⟨by rfl, ?_⟩) hHeld ?_ ?_
   rotate_left
   ·rintro w' ⟨s0, s1, s2⟩
    go_simp
    with_reducible rfl
   rotate_left
   ·simp only [Act.put, lsa_, ls0_, ls1_, i64_w, i32_w]
    rfl
   refine one_ (i := 6) (N := some 28) #[t_,t_,t_,t_,t_,t_,t_,f_] rfl rfl (one_of HT_.out (by kernel_rfl)) (by decide) (fun K hK => ?_)
   (first | refine goes_ Tryd.func38 (by kernel_rfl) rfl #[.int .i64 (wrap64 (x1_1 + 1))] (by rfl) rfl rfl (by first | rfl | (simp only [List.map_toArray, List.map_cons, List.map_nil]; first | done | rfl)) ?_ | refine RPW.goesV_ Tryd.func38 (by kernel_rfl) rfl #[.int .i64 (wrap64 (x1_1 + 1))] (by rfl) rfl rfl rfl (by first | rfl | (simp only [List.map_toArray, List.map_cons, List.map_nil]; first | done | rfl)) ?_ | refine RPW.goesC_ Tryd.func38 (by kernel_rfl) rfl #[.int .i64 (wrap64 (x1_1 + 1))] (by rfl) rfl rfl rfl (by first | rfl | (simp only [List.map_toArray, List.map_cons, List.map_nil]; first | done | rfl)) ?_)
   with_reducible refine (aB_.calls k1 (wrap64 (x1_1 + 1)) t104 _ A10.out).mono ?_
   rintro e w13 ⟨rfl, hb⟩
   refine ⟨_, rfl, ?_⟩
   have n0_ := Aside0.mk (au_ (bz HB.out) hb)
   clear HB
   have HB := n0_
   clear n0_
   (try clear hb)
   refine hK.out _ _ ⟨((HB.out.cell (bl_ w _ hw103_0)).trans hw103_0), ((HB.out.cell (bl_ w _ hw103_1)).trans hw103_1), ((HB.out.cell (bl_ w _ hw103_2)).trans hw103_2)⟩ (fun hHeld => ?_)
   clear hK K
   refine norm_ (a' := ?_) ?_ ?_
   rotate_left
   ·show Act.put _ (some 28) _ = _
    simp only [Act.put, lsa_, ls0_, ls1_, i64_w, i32_w]
    rfl
   refine pure_ (i := 7) (N := some 29) (v := ?_) (a' := ?_) #[t_,t_,t_,t_,t_,t_,t_,t_] rfl rfl (aD_ HT_.out (by kernel_rfl)) (fun _ _ _ h => h) (Or.inl ⟨by rfl, ?_⟩) ?_ ?_
   rotate_left
   ·intro w'
    go_simp
    with_reducible rfl
   rotate_left
   ·simp only [Act.put, lsa_, ls0_, ls1_, i64_w, i32_w]
    rfl
   refine done_ (done_of HT_.out (by kernel_rfl)) ?_
   go_upto_if 29 with (fail)
   have H := HC11.out
   clear HC11
   by_cases c14 : ((aj_ l0 x5_1).f1).toList = t104.toList
   rotate_left
   ·rw [if_neg c14] at H
    have c14b0 : (((aj_ l0 x5_1).f1).toList == t104.toList) = false := beq_eq_false_iff_ne.mpr c14
    have c14b1 : (((aj_ l0 x5_1).f1).toList != t104.toList) = true := bne_iff_ne.mpr c14
    (first | rw [c14b0] | (simp only [i64_w, i32_w]; rw [c14b0]) | (simp only [c14b1, Bool.not_true, Bool.not_false]) | (simp only [c14b0, Bool.not_true, Bool.not_false]) | skip)
    obtain rfl := Option.some.inj H
    go_wp2
    go_ret
    exact ⟨by first | rfl | (simp [*, ap_, aq_] <;> rfl), bz HB.out⟩
   rw [if_pos c14] at H
   have c14b0 : (((aj_ l0 x5_1).f1).toList == t104.toList) = true := beq_iff_eq.mpr c14
   have c14b1 : (((aj_ l0 x5_1).f1).toList != t104.toList) = false := bne_eq_false_iff_eq.mpr c14
   clear c14
   (first | rw [c14b0] | (simp only [i64_w, i32_w]; rw [c14b0]) | (simp only [c14b1, Bool.not_true, Bool.not_false]) | (simp only [c14b0, Bool.not_true, Bool.not_false]) | skip)
   replace H := Option.bind_eq_some_iff.mp H
   obtain ⟨t106, A150, H⟩ := H
   (try dsimp only at H)
   have A15 := Aside0.mk A150
   clear A150
   have HC16 := Aside0.mk H
   clear H
   try go_wp2
   (try (rw [bq_ w13]; generalize hq_ : World.drewN w13 _ = w13; have n0_ : Aside0 (Below w.heap.size w w13) := ⟨by rw [← hq_]; exact (bz HB.out)⟩; clear HB hq_; have HB := n0_; clear n0_))
   have n0_ := Aside0.mk (bD_ HB.out)
   clear HB
   have HB := n0_
   clear n0_
   have p105 : 0 ≤ (x5_1 : Int) := of_decide_eq_true (by assumption)
   have q105 : x5_1 < (l0.length : Int) := of_decide_eq_true (by assumption)
   obtain ⟨ad105, e105, hx105_0, hx105_1, hx105_2⟩ := bk_ HR0.out x5_1 p105 q105
   have hw105_2 := hx105_2
   have hw105_1 := hx105_1
   have hw105_0 := hx105_0
   obtain rfl : ad101 = ad105 := (by injection e105)
   replace hx105_0 := (HB.out.cell (bl_ w _ hx105_0)).trans hx105_0
   replace hx105_1 := (HB.out.cell (bl_ w _ hx105_1)).trans hx105_1
   replace hx105_2 := (HB.out.cell (bl_ w _ hx105_2)).trans hx105_2
   replace p105 := eq_true p105
   replace q105 := eq_true q105
   refine start_ (n := 8) (S := fun w' => w'.cell? (ad101.add ((x5_1).toNat * 3)) = some (.string ((aj_ l0 x5_1).f0)) ∧ w'.cell? ⟨(ad101.add ((x5_1).toNat * 3)).block, (ad101.add ((x5_1).toNat * 3)).off + 1, none⟩ = some (.string ((aj_ l0 x5_1).f1)) ∧ w'.cell? ⟨(ad101.add ((x5_1).toNat * 3)).block, (ad101.add ((x5_1).toNat * 3)).off + 2, none⟩ = some (.string ((aj_ l0 x5_1).f2))) (ds := []) #[f_,f_,f_,f_,f_,f_,f_,f_] (by kernel_rfl) rfl rfl ⟨((HB.out.cell (bl_ w _ hw105_0)).trans hw105_0), ((HB.out.cell (bl_ w _ hw105_1)).trans hw105_1), ((HB.out.cell (bl_ w _ hw105_2)).trans hw105_2)⟩ (fun hHeld => ?_); refine bE_ ak_.tab10 ak_.bits10 (fun HT_ HW_ => ?_)
   generalize w13.drew = w17 at HB hx105_0 hx105_1 hx105_2 hHeld ⊢
   refine pure_ (i := 0) (N := some 32) (v := ?_) (a' := ?_) #[t_,f_,f_,f_,f_,f_,f_,f_] rfl rfl (aD_ HT_.out (by kernel_rfl)) (fun _ _ _ h => h) (Or.inl ⟨by rfl, ?_⟩) ?_ ?_
   rotate_left
   ·intro w'
    go_simp
    with_reducible rfl
   rotate_left
   ·simp only [Act.put, lsa_, ls0_, ls1_, i64_w, i32_w]
    rfl
   refine pure_ (i := 1) (N := some 33) (v := ?_) (a' := ?_) #[t_,t_,f_,f_,f_,f_,f_,f_] rfl rfl (aD_ HT_.out (by kernel_rfl)) (fun _ _ _ h => h) (Or.inl ⟨by rfl, ?_⟩) ?_ ?_
   rotate_left
   ·intro w'
    go_simp
    with_reducible rfl
   rotate_left
   ·simp only [Act.put, lsa_, ls0_, ls1_, i64_w, i32_w]
    rfl
   refine pure_ (i := 2) (N := some 34) (v := ?_) (a' := ?_) #[t_,t_,t_,f_,f_,f_,f_,f_] rfl rfl (aD_ HT_.out (by kernel_rfl)) (fun _ _ _ h => h) (Or.inl ⟨by rfl, ?_⟩) ?_ ?_
   rotate_left
   ·intro w'
    go_simp
    with_reducible rfl
   rotate_left
   ·simp only [Act.put, lsa_, ls0_, ls1_, i64_w, i32_w]
    rfl
   refine pure_ (i := 3) (N := some 35) (v := ?_) (a' := ?_) #[t_,t_,t_,t_,f_,f_,f_,f_] rfl rfl (aD_ HT_.out (by kernel_rfl)) (fun _ _ _ h => h) (Or.inl ⟨by rfl, ?_⟩) ?_ ?_
   rotate_left
   ·intro w'
    go_simp
    with_reducible rfl
   rotate_left
   ·simp only [Act.put, lsa_, ls0_, ls1_, i64_w, i32_w]
    rfl
   refine pure_ (i := 5) (N := some 37) (v := ?_) (a' := ?_) #[t_,t_,t_,t_,f_,t_,f_,f_] rfl rfl (aD_ HT_.out (by kernel_rfl)) (fun _ _ _ h => h) (Or.inl ⟨by rfl, ?_⟩) ?_ ?_
   rotate_left
   ·intro w'
    go_simp
    with_reducible rfl
   rotate_left
   ·simp only [Act.put, lsa_, ls0_, ls1_, i64_w, i32_w]
    rfl
   refine take_ (i := 4) (N := some 36) (v := ?_) (a' := ?_) #[t_,t_,t_,t_,t_,t_,f_,f_] rfl rfl (bI_ HT_.out HW_.out (by kernel_rfl)) (fun _ _ _ h => h) (Or.inl ⟨by rfl, ?_⟩) hHeld ?_ ?_
   rotate_left
   ·rintro w' ⟨s0, s1, s2⟩
    go_simp
    with_reducible rfl
   rotate_left
   ·simp only [Act.put, lsa_, ls0_, ls1_, i64_w, i32_w]
    rfl
   refine one_ (i := 6) (N := some 38) #[t_,t_,t_,t_,t_,t_,t_,f_] rfl rfl (one_of HT_.out (by kernel_rfl)) (by decide) (fun K hK => ?_)
   (first | refine goes_ Tryd.func38 (by kernel_rfl) rfl #[.int .i64 (wrap64 ((wrap64 (x1_1 + 1)) + 1))] (by rfl) rfl rfl (by first | rfl | (simp only [List.map_toArray, List.map_cons, List.map_nil]; first | done | rfl)) ?_ | refine RPW.goesV_ Tryd.func38 (by kernel_rfl) rfl #[.int .i64 (wrap64 ((wrap64 (x1_1 + 1)) + 1))] (by rfl) rfl rfl rfl (by first | rfl | (simp only [List.map_toArray, List.map_cons, List.map_nil]; first | done | rfl)) ?_ | refine RPW.goesC_ Tryd.func38 (by kernel_rfl) rfl #[.int .i64 (wrap64 ((wrap64 (x1_1 + 1)) + 1))] (by rfl) rfl rfl rfl (by first | rfl | (simp only [List.map_toArray, List.map_cons, List.map_nil]; first | done | rfl)) ?_)
   with_reducible refine (aB_.calls k1 (wrap64 ((wrap64 (x1_1 + 1)) + 1)) t106 _ A15.out).mono ?_
   rintro e w18 ⟨rfl, hb⟩
   refine ⟨_, rfl, ?_⟩
   have n0_ := Aside0.mk (au_ (bz HB.out) hb)
   clear HB
   have HB := n0_
   clear n0_
   (try clear hb)
   refine hK.out _ _ ⟨((HB.out.cell (bl_ w _ hw105_0)).trans hw105_0), ((HB.out.cell (bl_ w _ hw105_1)).trans hw105_1), ((HB.out.cell (bl_ w _ hw105_2)).trans hw105_2)⟩ (fun hHeld => ?_)
   clear hK K
   refine norm_ (a' := ?_) ?_ ?_
   rotate_left
   ·show Act.put _ (some 38) _ = _
    simp only [Act.put, lsa_, ls0_, ls1_, i64_w, i32_w]
    rfl
   refine pure_ (i := 7) (N := some 39) (v := ?_) (a' := ?_) #[t_,t_,t_,t_,t_,t_,t_,t_] rfl rfl (aD_ HT_.out (by kernel_rfl)) (fun _ _ _ h => h) (Or.inl ⟨by rfl, ?_⟩) ?_ ?_
   rotate_left
   ·intro w'
    go_simp
    with_reducible rfl
   rotate_left
   ·simp only [Act.put, lsa_, ls0_, ls1_, i64_w, i32_w]
    rfl
   refine done_ (done_of HT_.out (by kernel_rfl)) ?_
   go_upto_if 39 with (fail)
   have H := HC16.out
   clear HC16
   by_cases c19 : ((aj_ l0 x5_1).f2).toList = t106.toList
   rotate_left
   ·rw [if_neg c19] at H
    have c19b0 : (((aj_ l0 x5_1).f2).toList == t106.toList) = false := beq_eq_false_iff_ne.mpr c19
    have c19b1 : (((aj_ l0 x5_1).f2).toList != t106.toList) = true := bne_iff_ne.mpr c19
    (first | rw [c19b0] | (simp only [i64_w, i32_w]; rw [c19b0]) | (simp only [c19b1, Bool.not_true, Bool.not_false]) | (simp only [c19b0, Bool.not_true, Bool.not_false]) | skip)
    obtain rfl := Option.some.inj H
    go_wp2
    go_ret
    exact ⟨by first | rfl | (simp [*, ap_, aq_] <;> rfl), bz HB.out⟩
   rw [if_pos c19] at H
   have c19b0 : (((aj_ l0 x5_1).f2).toList == t106.toList) = true := beq_iff_eq.mpr c19
   have c19b1 : (((aj_ l0 x5_1).f2).toList != t106.toList) = false := bne_eq_false_iff_eq.mpr c19
   clear c19
   (first | rw [c19b0] | (simp only [i64_w, i32_w]; rw [c19b0]) | (simp only [c19b1, Bool.not_true, Bool.not_false]) | (simp only [c19b0, Bool.not_true, Bool.not_false]) | skip)
   have H' := Aside0.mk H
   clear H
   go_wp2
   go_roundg k1
   case measure => have := HK1.out; omega
   case rel => exact ⟨(wrap64 ((wrap64 ((wrap64 (x1_1 + 1)) + 1)) + 1)), (wrap64 (x5_1 + 1)), (by first | rfl | (simp; done) | (simp [*]; done)), (by first | rfl | (simp; done) | (simp [*]; done)), H', ⟨by have := HK1.out; omega⟩, ⟨bz HB.out⟩⟩
mutual
def ad_.j0 : Nat → ByteArray → List (S43) → Int → Int → List (S43) → Bool → Option (Bool)
 | 0, _, _, _, _, _, _ => none
 | k + 1, x0, x3, x4, x5, x6, x42 => if x42 = true then (some false) else ((aH_.f k x6 1).bind fun bt112 => ((ak_.f k bt112.2 1).bind fun t114 => (if t114 < 0 then (some false) else (if t114 = bt112.1 then ((aa_.f k x0).bind fun bt115 => ((ax_.f k bt115.1 x3).bind fun t120 => (if t120 = true then (if bt115.2.1 = x4 then (ad_.j1 k bt112.2 bt112.1 (bt115.2.2 != x5)) else (ad_.j1 k bt112.2 bt112.1 true)) else (ad_.j1 k bt112.2 bt112.1 true)))) else (some false)))))
def ad_.j1 : Nat → List (S43) → Int → Bool → Option (Bool)
 | 0, _, _, _ => none
 | k + 1, x6, x9, x73 => if x73 = true then (some false) else ((ak_.f k x6 1).bind fun t121 => (if t121 < 0 then (some false) else (if t121 = x9 then (some true) else (some false))))
end
def ad_.f (k : Nat) (a0 : ByteArray) : Option (Bool) := if (a0.size : Int) > 1048576 then (some true) else ((an_.f k a0).bind fun bt101 => ((aa_.f k a0).bind fun bt106 => ((ax_.f k bt106.1 bt101.1).bind fun t111 => (if t111 = true then (if bt106.2.1 = bt101.2.1 then (ad_.j0 k a0 bt101.1 bt101.2.1 bt101.2.2 bt106.1 (bt106.2.2 != bt101.2.2)) else (ad_.j0 k a0 bt101.1 bt101.2.1 bt101.2.2 bt106.1 true)) else (ad_.j0 k a0 bt101.1 bt101.2.1 bt101.2.2 bt106.1 true)))))
set_option maxHeartbeats 8000000 in
set_option maxRecDepth 100000 in
theorem ad_.calls (k : Nat) (a0 : ByteArray) (r : Bool) (w : World) (hTab_ : Tab_ w) (h : ad_.f k a0 = some r) :
  Calls Tryd.prog 4 #[.string a0] w fun e w' => e = .returned (.bool r) ∧ Below w.heap.size w w' := by
 have HTab_ := Aside0.mk hTab_
 clear hTab_
 have HB := Aside0.mk (Below.refl w.heap.size w)
 have H : (if (a0.size : Int) > 1048576 then (some true) else ((an_.f k a0).bind fun bt101 => ((aa_.f k a0).bind fun bt106 => ((ax_.f k bt106.1 bt101.1).bind fun t111 => (if t111 = true then (if bt106.2.1 = bt101.2.1 then (ad_.j0 k a0 bt101.1 bt101.2.1 bt101.2.2 bt106.1 (bt106.2.2 != bt101.2.2)) else (ad_.j0 k a0 bt101.1 bt101.2.1 bt101.2.2 bt106.1 true)) else (ad_.j0 k a0 bt101.1 bt101.2.1 bt101.2.2 bt106.1 true)))))) = some r := h
 clear h
 by_cases c2 : (a0.size : Int) > 1048576
 rotate_left
 ·rw [if_neg c2] at H
  have c2b0 : decide (1048576 < (a0.size : Int)) = false := decide_eq_false c2
  have c2b1 : decide (1048576 < a0.size) = false := decide_eq_false (by omega)
  clear c2
  replace H := Option.bind_eq_some_iff.mp H
  obtain ⟨⟨t101, t102, t103⟩, A30, H⟩ := H
  (try dsimp only at H)
  have A3 := Aside0.mk A30
  clear A30
  replace H := Option.bind_eq_some_iff.mp H
  obtain ⟨⟨t106, t107, t108⟩, A40, H⟩ := H
  (try dsimp only at H)
  have A4 := Aside0.mk A40
  clear A40
  have HC5 := Aside0.mk H
  clear H
  go_enter Tryd.func4, Tryd.ntmps4
  go_upto_region 5 with (first | ((with_reducible refine as_ (f := 12) rfl ?_); refine aY_ (some 19) rfl rfl Tryd.func12 (by kernel_rfl) rfl #[.string a0] rfl (by first | rfl | (simp only [List.map_toArray, List.map_cons, List.map_nil]; first | done | rfl)) ?_; (with_reducible refine (an_.calls k a0 t101 t102 t103 _ A3.out).mono ?_); rintro e w6 ⟨v104, rfl, ho0, hb⟩; refine ⟨_, rfl, ?_⟩; have HO105 := Aside0.mk (Kd.bw_ ho0 (aw_ (bz HB.out))); replace HB := Aside0.mk (au_ (bz HB.out) hb); (try clear hb); (try clear ho0)) | ((with_reducible refine as_ (f := 13) rfl ?_); refine aY_ (some 25) rfl rfl Tryd.func13 (by kernel_rfl) rfl #[.string a0] rfl (by first | rfl | (simp only [List.map_toArray, List.map_cons, List.map_nil]; first | done | rfl)) ?_; (with_reducible refine (aa_.calls k a0 t106 t107 t108 _ ?side1 A4.out).mono ?_); (case side1 => exact bx_ HTab_.out (bz HB.out)); rintro e w7 ⟨v109, rfl, ho0, hb⟩; refine ⟨_, rfl, ?_⟩; have HO110 := Aside0.mk (Kd.bw_ (Kd.R_new' ho0 (Kd.R_lt (rz HO105.out))) (aw_ (bz HB.out))); replace HO105 := Aside0.mk (Kd.R_elder' (rz HO105.out) (Kd.R_base ho0) hb); replace HB := Aside0.mk (au_ (bz HB.out) hb); (try clear hb); (try clear ho0)))
  (try simp only [Act.put, lsa_, ls0_, ls1_])
  go_cut [42] (fun v42 wc => ∃ (kq : Nat) (x42_4 : Bool), v42 = .bool x42_4 ∧ Aside0 (ad_.j0 kq a0 t101 t102 t103 t106 x42_4 = some r) ∧ Aside0 (kq ≤ k) ∧ Aside0 (Kd.R k43 43 wc w.heap.size (fun k_ => some k_ ≠ (v109 : Value).ownBlock) v104 t101) ∧ Aside0 (Kd.R k43 43 wc w.heap.size (fun k_ => some k_ ≠ (v104 : Value).ownBlock) v109 t106) ∧ Aside0 (Below w.heap.size w wc))
  case first =>
   have H := HC5.out
   clear HC5
   replace H := Option.bind_eq_some_iff.mp H
   obtain ⟨t111, A80, H⟩ := H
   (try dsimp only at H)
   have A8 := Aside0.mk A80
   clear A80
   by_cases c9 : t111 = true
   rotate_left
   ·replace c9 := Bool.eq_false_iff.mpr c9
    subst c9
    have H1 : (ad_.j0 k a0 t101 t102 t103 t106 true) = some r := by rw [if_neg (show ¬ (false = true) by decide)] at H; exact H
    clear H
    have H := H1
    clear H1
    have H' := Aside0.mk H
    clear H
    obtain ⟨Ao17, co17, eo17⟩ := Kd.bc_ HO110.out
    subst eo17
    obtain ⟨Ao18, co18, eo18⟩ := Kd.bc_ HO105.out
    subst eo18
    go_wp2_with (first | ((with_reducible refine as_ (f := 14) rfl ?_); refine aY_ (some 31) rfl rfl Tryd.func14 (by kernel_rfl) rfl #[.slice Ao17 t106.length co17, .slice Ao18 t101.length co18] rfl (by first | rfl | (simp only [List.map_toArray, List.map_cons, List.map_nil]; first | done | rfl)) ?_; (with_reducible refine (ax_.calls k _ _ t106 _ _ t101 false _ ?side1 ?side2 ?side3 ?side4 A8.out).mono ?_); (case side1 => exact cz (Kd.ay_ HO110.out).2.2); (case side2 => exact (Kd.ay_ HO110.out).2.1); (case side3 => exact cz (Kd.ay_ HO105.out).2.2); (case side4 => exact (Kd.ay_ HO105.out).2.1); rintro e w19 ⟨rfl, hb⟩; refine ⟨_, rfl, ?_⟩; replace HO105 := Aside0.mk (Kd.aZ_ (rz HO105.out) hb); replace HO110 := Aside0.mk (Kd.aZ_ (rz HO110.out) hb); replace HB := Aside0.mk (au_ (bz HB.out) hb); (try clear hb)))
    go_meet
    case rel => exact ⟨_, (true), (by first | rfl | (simp; done) | (simp [*]; done)), H', ⟨by first | omega | exact Nat.le_refl _⟩, ⟨rz (Kd.ba_ HO105.out (fun _ hk => hk.2))⟩, ⟨rz (Kd.ba_ HO110.out (fun _ hk => hk.2))⟩, ⟨bz HB.out⟩⟩
   subst c9
   have H1 : (if t107 = t102 then (ad_.j0 k a0 t101 t102 t103 t106 (t108 != t103)) else (ad_.j0 k a0 t101 t102 t103 t106 true)) = some r := by rw [if_pos rfl] at H; exact H
   clear H
   have H := H1
   clear H1
   by_cases c10 : t107 = t102
   rotate_left
   ·rw [if_neg c10] at H
    have c10b0 : (t107 == t102) = false := beq_eq_false_iff_ne.mpr c10
    have c10b1 : (t107 != t102) = true := bne_iff_ne.mpr c10
    (first | rw [c10b0] | (simp only [i64_w, i32_w]; rw [c10b0]) | (simp only [c10b1, Bool.not_true, Bool.not_false]) | (simp only [c10b0, Bool.not_true, Bool.not_false]) | skip)
    have H' := Aside0.mk H
    clear H
    obtain ⟨Ao14, co14, eo14⟩ := Kd.bc_ HO110.out
    subst eo14
    obtain ⟨Ao15, co15, eo15⟩ := Kd.bc_ HO105.out
    subst eo15
    go_wp2_with (first | ((with_reducible refine as_ (f := 14) rfl ?_); refine aY_ (some 31) rfl rfl Tryd.func14 (by kernel_rfl) rfl #[.slice Ao14 t106.length co14, .slice Ao15 t101.length co15] rfl (by first | rfl | (simp only [List.map_toArray, List.map_cons, List.map_nil]; first | done | rfl)) ?_; (with_reducible refine (ax_.calls k _ _ t106 _ _ t101 true _ ?side1 ?side2 ?side3 ?side4 A8.out).mono ?_); (case side1 => exact cz (Kd.ay_ HO110.out).2.2); (case side2 => exact (Kd.ay_ HO110.out).2.1); (case side3 => exact cz (Kd.ay_ HO105.out).2.2); (case side4 => exact (Kd.ay_ HO105.out).2.1); rintro e w16 ⟨rfl, hb⟩; refine ⟨_, rfl, ?_⟩; replace HO105 := Aside0.mk (Kd.aZ_ (rz HO105.out) hb); replace HO110 := Aside0.mk (Kd.aZ_ (rz HO110.out) hb); replace HB := Aside0.mk (au_ (bz HB.out) hb); (try clear hb)))
    go_meet
    case rel => exact ⟨_, (true), (by first | rfl | (simp; done) | (simp [*]; done)), H', ⟨by first | omega | exact Nat.le_refl _⟩, ⟨rz (Kd.ba_ HO105.out (fun _ hk => hk.2))⟩, ⟨rz (Kd.ba_ HO110.out (fun _ hk => hk.2))⟩, ⟨bz HB.out⟩⟩
   rw [if_pos c10] at H
   have c10b0 : (t107 == t102) = true := beq_iff_eq.mpr c10
   have c10b1 : (t107 != t102) = false := bne_eq_false_iff_eq.mpr c10
   clear c10
   (first | rw [c10b0] | (simp only [i64_w, i32_w]; rw [c10b0]) | (simp only [c10b1, Bool.not_true, Bool.not_false]) | (simp only [c10b0, Bool.not_true, Bool.not_false]) | skip)
   have H' := Aside0.mk H
   clear H
   obtain ⟨Ao11, co11, eo11⟩ := Kd.bc_ HO110.out
   subst eo11
   obtain ⟨Ao12, co12, eo12⟩ := Kd.bc_ HO105.out
   subst eo12
   go_wp2_with (first | ((with_reducible refine as_ (f := 14) rfl ?_); refine aY_ (some 31) rfl rfl Tryd.func14 (by kernel_rfl) rfl #[.slice Ao11 t106.length co11, .slice Ao12 t101.length co12] rfl (by first | rfl | (simp only [List.map_toArray, List.map_cons, List.map_nil]; first | done | rfl)) ?_; (with_reducible refine (ax_.calls k _ _ t106 _ _ t101 true _ ?side1 ?side2 ?side3 ?side4 A8.out).mono ?_); (case side1 => exact cz (Kd.ay_ HO110.out).2.2); (case side2 => exact (Kd.ay_ HO110.out).2.1); (case side3 => exact cz (Kd.ay_ HO105.out).2.2); (case side4 => exact (Kd.ay_ HO105.out).2.1); rintro e w13 ⟨rfl, hb⟩; refine ⟨_, rfl, ?_⟩; replace HO105 := Aside0.mk (Kd.aZ_ (rz HO105.out) hb); replace HO110 := Aside0.mk (Kd.aZ_ (rz HO110.out) hb); replace HB := Aside0.mk (au_ (bz HB.out) hb); (try clear hb)))
   go_meet
   case rel => exact ⟨_, ((t108 != t103)), (by first | rfl | (simp; done) | (simp [*]; done)), H', ⟨by first | omega | exact Nat.le_refl _⟩, ⟨rz (Kd.ba_ HO105.out (fun _ hk => hk.2))⟩, ⟨rz (Kd.ba_ HO110.out (fun _ hk => hk.2))⟩, ⟨bz HB.out⟩⟩
  case rest =>
   clear HC5
   obtain ⟨kq, x42_4, rfl, HA, HJ4, HO_3, HO_6, HB⟩ := hcut
   cases kq with
   | zero => exact absurd HA.out (by simp [ad_.j0])
   | succ kj4 =>
    have H := HA.out
    clear HA
    simp only [ad_.j0] at H
    by_cases c20 : x42_4 = true
    rotate_left
    ·replace c20 := Bool.eq_false_iff.mpr c20
     subst c20
     have H1 : ((aH_.f kj4 t106 1).bind fun bt112 => ((ak_.f kj4 bt112.2 1).bind fun t114 => (if t114 < 0 then (some false) else (if t114 = bt112.1 then ((aa_.f kj4 a0).bind fun bt115 => ((ax_.f kj4 bt115.1 t101).bind fun t120 => (if t120 = true then (if bt115.2.1 = t102 then (ad_.j1 kj4 bt112.2 bt112.1 (bt115.2.2 != t103)) else (ad_.j1 kj4 bt112.2 bt112.1 true)) else (ad_.j1 kj4 bt112.2 bt112.1 true)))) else (some false))))) = some r := by rw [if_neg (show ¬ (false = true) by decide)] at H; exact H
     clear H
     have H := H1
     clear H1
     replace H := Option.bind_eq_some_iff.mp H
     obtain ⟨⟨t112, t113⟩, A210, H⟩ := H
     (try dsimp only at H)
     have A21 := Aside0.mk A210
     clear A210
     replace H := Option.bind_eq_some_iff.mp H
     obtain ⟨t114, A220, H⟩ := H
     (try dsimp only at H)
     have A22 := Aside0.mk A220
     clear A220
     have HC23 := Aside0.mk H
     clear H
     obtain ⟨Ao24, co24, eo24⟩ := Kd.bc_ HO_6.out
     subst eo24
     go_upto_if 50 with (first | ((with_reducible refine as_ (f := 15) rfl ?_); refine aY_ (some 45) rfl rfl Tryd.func15 (by kernel_rfl) rfl #[.slice Ao24 t106.length co24, .int .i64 1] rfl (by first | rfl | (simp only [List.map_toArray, List.map_cons, List.map_nil]; first | done | rfl)) ?_; (with_reducible refine (aH_.calls kj4 (fun k_ => some k_ = (.slice Ao24 t106.length co24 : Value).ownBlock) (.slice Ao24 t106.length co24) t106 1 t112 t113 w _ ?side1 ?side2 A21.out).mono ?_); (case side1 => exact bz HB.out); (case side2 => exact Kd.R_tight rfl HO_6.out); rintro e w25 ⟨rfl, hy0, hb, hkp⟩; refine ⟨_, rfl, ?_⟩; replace HO_3 := Aside0.mk (Kd.ba_ (ok' := fun k_ => some k_ ≠ (.slice Ao24 t106.length co24 : Value).ownBlock) (Kd.R_keptB (HO_3.out) hkp (fun k_ hk_ hs_ => (hk_) hs_)) (fun k_ hk_ => hk_.1)); replace HO_6 := Aside0.mk (Kd.R_reok rfl hy0 (fun k_ e_ => HO_6.out.1 k_ e_)); replace HB := Aside0.mk (hb); (try clear hb); (try clear hkp); (try clear hy0)) | ((with_reducible refine as_ (f := 16) rfl ?_); refine aY_ (some 48) rfl rfl Tryd.func16 (by kernel_rfl) rfl #[.slice Ao24 t113.length co24, .int .i64 1] rfl (by (try simp only [List.map_toArray, List.map_cons, List.map_nil]); first | done | (rw [show t113.length = t106.length from (Kd.ay_ HO_6.out).1.symm] <;> rfl) | rfl | (simp only [List.length_drop, List.length_take]; rfl)) ?_; (with_reducible refine (ak_.calls kj4 _ _ t113 1 t114 _ ?side1 ?side2 A22.out).mono ?_); (case side1 => exact cz (Kd.ay_ HO_6.out).2.2); (case side2 => rw [show t113.length = t106.length from (Kd.ay_ HO_6.out).1.symm]; exact (Kd.ay_ HO_6.out).2.1); rintro e w26 ⟨rfl, hb⟩; refine ⟨_, rfl, ?_⟩; replace HO_3 := Aside0.mk (Kd.aZ_ (rz HO_3.out) hb); replace HO_6 := Aside0.mk (Kd.aZ_ (rz HO_6.out) hb); replace HB := Aside0.mk (au_ (bz HB.out) hb); (try clear hb)))
     (try simp only [Act.put, lsa_, ls0_, ls1_])
     have H := HC23.out
     clear HC23
     by_cases c27 : t114 < 0
     rotate_left
     ·rw [if_neg c27] at H
      have c27b0 : decide (t114 < 0) = false := decide_eq_false c27
      clear c27
      (first | rw [c27b0] | (simp only [i64_w, i32_w]; rw [c27b0]) | (simp only [c27b1, Bool.not_true, Bool.not_false]) | (simp only [c27b0, Bool.not_true, Bool.not_false]) | skip)
      by_cases c28 : t114 = t112
      rotate_left
      ·rw [if_neg c28] at H
       have c28b0 : (t114 == t112) = false := beq_eq_false_iff_ne.mpr c28
       have c28b1 : (t114 != t112) = true := bne_iff_ne.mpr c28
       obtain rfl := Option.some.inj H
       go_wp2
       go_ret
       exact ⟨by first | rfl | (simp [*, ap_, aq_] <;> rfl), bz HB.out⟩
      rw [if_pos c28] at H
      have c28b0 : (t114 == t112) = true := beq_iff_eq.mpr c28
      have c28b1 : (t114 != t112) = false := bne_eq_false_iff_eq.mpr c28
      clear c28
      replace H := Option.bind_eq_some_iff.mp H
      obtain ⟨⟨t115, t116, t117⟩, A290, H⟩ := H
      (try dsimp only at H)
      have A29 := Aside0.mk A290
      clear A290
      have HC30 := Aside0.mk H
      clear H
      go_upto_region 16 with (first | ((with_reducible refine as_ (f := 13) rfl ?_); refine aY_ (some 56) rfl rfl Tryd.func13 (by kernel_rfl) rfl #[.string a0] rfl (by first | rfl | (simp only [List.map_toArray, List.map_cons, List.map_nil]; first | done | rfl)) ?_; (with_reducible refine (aa_.calls kj4 a0 t115 t116 t117 _ ?side1 A29.out).mono ?_); (case side1 => exact bx_ HTab_.out (bz HB.out)); rintro e w31 ⟨v118, rfl, ho0, hb⟩; refine ⟨_, rfl, ?_⟩; have HO119 := Aside0.mk (Kd.bw_ (Kd.R_new' (Kd.R_new' ho0 (Kd.R_lt (rz HO_3.out))) (Kd.R_lt (rz HO_6.out))) (aw_ (bz HB.out))); replace HO_3 := Aside0.mk (Kd.R_elder' (rz HO_3.out) (Kd.R_base ho0) hb); replace HO_6 := Aside0.mk (Kd.R_elder' (rz HO_6.out) (Kd.R_base ho0) hb); replace HB := Aside0.mk (au_ (bz HB.out) hb); (try clear hb); (try clear ho0)))
      (try simp only [Act.put, lsa_, ls0_, ls1_])
      go_cut [73] (fun v73 wc => ∃ (kq : Nat) (x73_29 : Bool), v73 = .bool x73_29 ∧ Aside0 (ad_.j1 kq t113 t112 x73_29 = some r) ∧ Aside0 (kq ≤ kj4) ∧ Aside0 (Kd.R k43 43 wc w.heap.size (fun _ => True) (.slice Ao24 t106.length co24) t113) ∧ Aside0 (Below w.heap.size w wc))
      case first =>
       have H := HC30.out
       clear HC30
       replace H := Option.bind_eq_some_iff.mp H
       obtain ⟨t120, A320, H⟩ := H
       (try dsimp only at H)
       have A32 := Aside0.mk A320
       clear A320
       by_cases c33 : t120 = true
       rotate_left
       ·replace c33 := Bool.eq_false_iff.mpr c33
        subst c33
        have H1 : (ad_.j1 kj4 t113 t112 true) = some r := by rw [if_neg (show ¬ (false = true) by decide)] at H; exact H
        clear H
        have H := H1
        clear H1
        have H' := Aside0.mk H
        clear H
        obtain ⟨Ao41, co41, eo41⟩ := Kd.bc_ HO119.out
        subst eo41
        obtain ⟨Ao42, co42, eo42⟩ := Kd.bc_ HO_3.out
        subst eo42
        go_wp2_with (first | ((with_reducible refine as_ (f := 14) rfl ?_); refine aY_ (some 62) rfl rfl Tryd.func14 (by kernel_rfl) rfl #[.slice Ao41 t115.length co41, .slice Ao42 t101.length co42] rfl (by first | rfl | (simp only [List.map_toArray, List.map_cons, List.map_nil]; first | done | rfl)) ?_; (with_reducible refine (ax_.calls kj4 _ _ t115 _ _ t101 false _ ?side1 ?side2 ?side3 ?side4 A32.out).mono ?_); (case side1 => exact cz (Kd.ay_ HO119.out).2.2); (case side2 => exact (Kd.ay_ HO119.out).2.1); (case side3 => exact cz (Kd.ay_ HO_3.out).2.2); (case side4 => exact (Kd.ay_ HO_3.out).2.1); rintro e w43 ⟨rfl, hb⟩; refine ⟨_, rfl, ?_⟩; replace HO_3 := Aside0.mk (Kd.aZ_ (rz HO_3.out) hb); replace HO_6 := Aside0.mk (Kd.aZ_ (rz HO_6.out) hb); replace HO119 := Aside0.mk (Kd.aZ_ (rz HO119.out) hb); replace HB := Aside0.mk (au_ (bz HB.out) hb); (try clear hb)))
        go_meet
        case rel => exact ⟨_, (true), (by first | rfl | (simp; done) | (simp [*]; done)), H', ⟨by have := HJ4.out; first | omega | exact Nat.le_refl _⟩, ⟨rz (Kd.ba_ HO_6.out (fun _ hk => trivial))⟩, ⟨bz HB.out⟩⟩
       subst c33
       have H1 : (if t116 = t102 then (ad_.j1 kj4 t113 t112 (t117 != t103)) else (ad_.j1 kj4 t113 t112 true)) = some r := by rw [if_pos rfl] at H; exact H
       clear H
       have H := H1
       clear H1
       by_cases c34 : t116 = t102
       rotate_left
       ·rw [if_neg c34] at H
        have c34b0 : (t116 == t102) = false := beq_eq_false_iff_ne.mpr c34
        have c34b1 : (t116 != t102) = true := bne_iff_ne.mpr c34
        (first | rw [c34b0] | (simp only [i64_w, i32_w]; rw [c34b0]) | (simp only [c34b1, Bool.not_true, Bool.not_false]) | (simp only [c34b0, Bool.not_true, Bool.not_false]) | skip)
        have H' := Aside0.mk H
        clear H
        obtain ⟨Ao38, co38, eo38⟩ := Kd.bc_ HO119.out
        subst eo38
        obtain ⟨Ao39, co39, eo39⟩ := Kd.bc_ HO_3.out
        subst eo39
        go_wp2_with (first | ((with_reducible refine as_ (f := 14) rfl ?_); refine aY_ (some 62) rfl rfl Tryd.func14 (by kernel_rfl) rfl #[.slice Ao38 t115.length co38, .slice Ao39 t101.length co39] rfl (by first | rfl | (simp only [List.map_toArray, List.map_cons, List.map_nil]; first | done | rfl)) ?_; (with_reducible refine (ax_.calls kj4 _ _ t115 _ _ t101 true _ ?side1 ?side2 ?side3 ?side4 A32.out).mono ?_); (case side1 => exact cz (Kd.ay_ HO119.out).2.2); (case side2 => exact (Kd.ay_ HO119.out).2.1); (case side3 => exact cz (Kd.ay_ HO_3.out).2.2); (case side4 => exact (Kd.ay_ HO_3.out).2.1); rintro e w40 ⟨rfl, hb⟩; refine ⟨_, rfl, ?_⟩; replace HO_3 := Aside0.mk (Kd.aZ_ (rz HO_3.out) hb); replace HO_6 := Aside0.mk (Kd.aZ_ (rz HO_6.out) hb); replace HO119 := Aside0.mk (Kd.aZ_ (rz HO119.out) hb); replace HB := Aside0.mk (au_ (bz HB.out) hb); (try clear hb)))
        go_meet
        case rel => exact ⟨_, (true), (by first | rfl | (simp; done) | (simp [*]; done)), H', ⟨by have := HJ4.out; first | omega | exact Nat.le_refl _⟩, ⟨rz (Kd.ba_ HO_6.out (fun _ hk => trivial))⟩, ⟨bz HB.out⟩⟩
       rw [if_pos c34] at H
       have c34b0 : (t116 == t102) = true := beq_iff_eq.mpr c34
       have c34b1 : (t116 != t102) = false := bne_eq_false_iff_eq.mpr c34
       clear c34
       (first | rw [c34b0] | (simp only [i64_w, i32_w]; rw [c34b0]) | (simp only [c34b1, Bool.not_true, Bool.not_false]) | (simp only [c34b0, Bool.not_true, Bool.not_false]) | skip)
       have H' := Aside0.mk H
       clear H
       obtain ⟨Ao35, co35, eo35⟩ := Kd.bc_ HO119.out
       subst eo35
       obtain ⟨Ao36, co36, eo36⟩ := Kd.bc_ HO_3.out
       subst eo36
       go_wp2_with (first | ((with_reducible refine as_ (f := 14) rfl ?_); refine aY_ (some 62) rfl rfl Tryd.func14 (by kernel_rfl) rfl #[.slice Ao35 t115.length co35, .slice Ao36 t101.length co36] rfl (by first | rfl | (simp only [List.map_toArray, List.map_cons, List.map_nil]; first | done | rfl)) ?_; (with_reducible refine (ax_.calls kj4 _ _ t115 _ _ t101 true _ ?side1 ?side2 ?side3 ?side4 A32.out).mono ?_); (case side1 => exact cz (Kd.ay_ HO119.out).2.2); (case side2 => exact (Kd.ay_ HO119.out).2.1); (case side3 => exact cz (Kd.ay_ HO_3.out).2.2); (case side4 => exact (Kd.ay_ HO_3.out).2.1); rintro e w37 ⟨rfl, hb⟩; refine ⟨_, rfl, ?_⟩; replace HO_3 := Aside0.mk (Kd.aZ_ (rz HO_3.out) hb); replace HO_6 := Aside0.mk (Kd.aZ_ (rz HO_6.out) hb); replace HO119 := Aside0.mk (Kd.aZ_ (rz HO119.out) hb); replace HB := Aside0.mk (au_ (bz HB.out) hb); (try clear hb)))
       go_meet
       case rel => exact ⟨_, ((t117 != t103)), (by first | rfl | (simp; done) | (simp [*]; done)), H', ⟨by have := HJ4.out; first | omega | exact Nat.le_refl _⟩, ⟨rz (Kd.ba_ HO_6.out (fun _ hk => trivial))⟩, ⟨bz HB.out⟩⟩
      case rest =>
       clear HC30
       obtain ⟨kq, x73_29, rfl, HA, HJ29, HO_6, HB⟩ := hcut
       have hl6_29 := (Kd.ay_ HO_6.out).1
       rw [hl6_29] at HO_6
       (try simp only [hl6_29])
       cases kq with
       | zero => exact absurd HA.out (by simp [ad_.j1])
       | succ kj29 =>
        have H := HA.out
        clear HA
        simp only [ad_.j1] at H
        by_cases c44 : x73_29 = true
        rotate_left
        ·replace c44 := Bool.eq_false_iff.mpr c44
         subst c44
         have H1 : ((ak_.f kj29 t113 1).bind fun t121 => (if t121 < 0 then (some false) else (if t121 = t112 then (some true) else (some false)))) = some r := by rw [if_neg (show ¬ (false = true) by decide)] at H; exact H
         clear H
         have H := H1
         clear H1
         replace H := Option.bind_eq_some_iff.mp H
         obtain ⟨t121, A450, H⟩ := H
         (try dsimp only at H)
         have A45 := Aside0.mk A450
         clear A450
         have HC46 := Aside0.mk H
         clear H
         go_upto_if 78 with (first | ((with_reducible refine as_ (f := 16) rfl ?_); refine aY_ (some 76) rfl rfl Tryd.func16 (by kernel_rfl) rfl #[.slice Ao24 t113.length co24, .int .i64 1] rfl (by first | rfl | (simp only [List.map_toArray, List.map_cons, List.map_nil]; first | done | rfl)) ?_; (with_reducible refine (ak_.calls kj29 _ _ t113 1 t121 _ ?side1 ?side2 A45.out).mono ?_); (case side1 => exact cz (Kd.ay_ HO_6.out).2.2); (case side2 => exact (Kd.ay_ HO_6.out).2.1); rintro e w47 ⟨rfl, hb⟩; refine ⟨_, rfl, ?_⟩; replace HO_6 := Aside0.mk (Kd.aZ_ (rz HO_6.out) hb); replace HB := Aside0.mk (au_ (bz HB.out) hb); (try clear hb)))
         (try simp only [Act.put, lsa_, ls0_, ls1_])
         have H := HC46.out
         clear HC46
         by_cases c48 : t121 < 0
         rotate_left
         ·rw [if_neg c48] at H
          have c48b0 : decide (t121 < 0) = false := decide_eq_false c48
          clear c48
          (first | rw [c48b0] | (simp only [i64_w, i32_w]; rw [c48b0]) | (simp only [c48b1, Bool.not_true, Bool.not_false]) | (simp only [c48b0, Bool.not_true, Bool.not_false]) | skip)
          by_cases c49 : t121 = t112
          rotate_left
          ·rw [if_neg c49] at H
           have c49b0 : (t121 == t112) = false := beq_eq_false_iff_ne.mpr c49
           have c49b1 : (t121 != t112) = true := bne_iff_ne.mpr c49
           obtain rfl := Option.some.inj H
           go_wp2
           go_ret
           exact ⟨by first | rfl | (simp [*, ap_, aq_] <;> rfl), bz HB.out⟩
          rw [if_pos c49] at H
          have c49b0 : (t121 == t112) = true := beq_iff_eq.mpr c49
          have c49b1 : (t121 != t112) = false := bne_eq_false_iff_eq.mpr c49
          clear c49
          obtain rfl := Option.some.inj H
          go_wp2
          go_ret
          exact ⟨by first | rfl | (simp [*, ap_, aq_] <;> rfl), bz HB.out⟩
         rw [if_pos c48] at H
         have c48b0 : decide (t121 < 0) = true := decide_eq_true c48
         clear c48
         (first | rw [c48b0] | (simp only [i64_w, i32_w]; rw [c48b0]) | (simp only [c48b1, Bool.not_true, Bool.not_false]) | (simp only [c48b0, Bool.not_true, Bool.not_false]) | skip)
         obtain rfl := Option.some.inj H
         go_wp2
         go_ret
         exact ⟨by first | rfl | (simp [*, ap_, aq_] <;> rfl), bz HB.out⟩
        subst c44
        have H1 : (some false) = some r := by rw [if_pos rfl] at H; exact H
        clear H
        have H := H1
        clear H1
        obtain rfl := Option.some.inj H
        go_wp2
        go_ret
        exact ⟨by first | rfl | (simp [*, ap_, aq_] <;> rfl), bz HB.out⟩
     rw [if_pos c27] at H
     have c27b0 : decide (t114 < 0) = true := decide_eq_true c27
     clear c27
     (first | rw [c27b0] | (simp only [i64_w, i32_w]; rw [c27b0]) | (simp only [c27b1, Bool.not_true, Bool.not_false]) | (simp only [c27b0, Bool.not_true, Bool.not_false]) | skip)
     obtain rfl := Option.some.inj H
     go_wp2
     go_ret
     exact ⟨by first | rfl | (simp [*, ap_, aq_] <;> rfl), bz HB.out⟩
    subst c20
    have H1 : (some false) = some r := by rw [if_pos rfl] at H; exact H
    clear H
    have H := H1
    clear H1
    obtain rfl := Option.some.inj H
    go_wp2
    go_ret
    exact ⟨by first | rfl | (simp [*, ap_, aq_] <;> rfl), bz HB.out⟩
 rw [if_pos c2] at H
 have c2b0 : decide (1048576 < (a0.size : Int)) = true := decide_eq_true c2
 have c2b1 : decide (1048576 < a0.size) = true := decide_eq_true (by omega)
 clear c2
 obtain rfl := Option.some.inj H
 go_enter Tryd.func4, Tryd.ntmps4
 go_wp2
 go_ret
 exact ⟨by first | rfl | (simp [*, ap_, aq_] <;> rfl), bz HB.out⟩
def ad_.Pure : Prop := ∀ (x0 : ByteArray), x0.size ≤ maxLen → ∃ k, ad_.f k x0 = some true
end Go.Proofs.YtjebkmfljcanlaaDoor.Q
namespace Go.Proofs.YtjebkmfljcanlaaDoor.Q
open Go.RowKit Go.Proofs.YtjebkmfljcanlaaDoorW.PrintWords Go.Proofs.YtjebkmfljcanlaaDoorW.PrintLast Go.Proofs.YtjebkmfljcanlaaDoorW.PrintMore
theorem wr64 {x : Int} (h0 : -9223372036854775808 ≤ x) (h1 : x < 9223372036854775808) : wrap64 x = x := by unfold wrap64; omega
theorem wr64s (i : Nat) (h : (i : Int) < 9223372036854775807) : wrap64 ((i : Int) + 1) = ((i + 1 : Nat) : Int) := by rw [wr64 (by omega) (by omega)]; omega
theorem aJ_ {α : Type} {g : Nat → Option α} {r : α} (h : Ev (fun k => g (k + 1)) r) : Ev g r := by
 obtain ⟨K, hK⟩ := h
 refine ⟨K + 1, fun k hk => ?_⟩
 obtain ⟨m, rfl⟩ : ∃ m, k = m + 1 := ⟨k - 1, by omega⟩
 exact hK m (by omega)
theorem Ev_t {α : Type} {c : Prop} [Decidable c] {f g : Nat → Option α} {r : α} (h : c) (k : Ev f r) : Ev (fun n => if c then f n else g n) r := by
 obtain ⟨K, hK⟩ := k
 exact ⟨K, fun n hn => (if_pos h).trans (hK n hn)⟩
theorem Ev_f {α : Type} {c : Prop} [Decidable c] {f g : Nat → Option α} {r : α} (h : ¬ c) (k : Ev g r) : Ev (fun n => if c then f n else g n) r := by
 obtain ⟨K, hK⟩ := k
 exact ⟨K, fun n hn => (if_neg h).trans (hK n hn)⟩
theorem Ev_b {α β : Type} {g : Nat → Option α} {f : Nat → α → Option β} {a : α} {r : β} (h : Ev g a) (k : Ev (fun n => f n a) r) : Ev (fun n => (g n).bind (fun x => f n x)) r := Ev.bind h k
theorem Ev_s {α β : Type} {a : α} {f : Nat → α → Option β} {r : β} (k : Ev (fun n => f n a) r) : Ev (fun n => (some a).bind (fun x => f n x)) r := k
theorem Ev_n {α : Type} {a r : α} (h : a = r) : Ev (fun _ => some a) r := ⟨0, fun _ _ => by rw [h]⟩
theorem Ev_c {α : Type} {o : Option α} {r : α} (h : o = some r) : Ev (fun _ => o) r := ⟨0, fun _ _ => h⟩
theorem Ev_at {α : Type} {g : Nat → Option α} {r r' : α} (h : Ev g r) (e : r = r') : Ev g r' := e ▸ h
theorem getD_in {α : Type} (l : List α) (z : α) (i : Nat) (h : i < l.length) : l.getD ((i : Int).toNat) z = l[i] := by simp [List.getD, h]
theorem getD_at {α : Type} (p q : List α) (z x : α) (i : Nat) (h : p.length = i) : (p ++ x :: q).getD ((i : Int).toNat) z = x := by subst h; simp [List.getD]
theorem set_at {α : Type} (p q : List α) (x y : α) (i : Nat) (h : p.length = i) : (p ++ x :: q).set ((i : Int).toNat) y = p ++ y :: q := by subst h; simp
theorem markText_ev (c : Int) (h0 : 0 ≤ c) (h1 : c ≤ 1000000000000000000) : ∃ t, Ev (fun k => aB_.f k c) t := by
 have go : ∀ (d : Nat) (c : Int) (s : ByteArray), 0 ≤ c → c < 10 ^ d → c ≤ 1000000000000000000 → s.size + d ≤ 1000 → ∃ t, Ev (fun k => aB_.l0 k c s) t := by
  intro d
  induction d with
  | zero =>
   intro c s h0 h1 h2 h3
   refine ⟨(⟨#[109]⟩ : ByteArray) ++ s, aJ_ ?_⟩
   simp only [aB_.l0]
   refine Ev_f (by simp at h1; omega) (Ev_t (by omega) (Ev_n rfl))
  | succ d ih =>
   intro c s h0 h1 h2 h3
   by_cases hc : c > 0
   rotate_left
   ·refine ⟨(⟨#[109]⟩ : ByteArray) ++ s, aJ_ ?_⟩
    simp only [aB_.l0]
    refine Ev_f hc (Ev_t (by omega) (Ev_n rfl))
   have e1 : (strOfNums [(wrap64 (48 + Int.tmod c 10)) % 256]).size = 1 := rfl
   have e2 : wrap64 (Int.tdiv c 10) = c / 10 := by rw [Int.tdiv_eq_ediv_of_nonneg h0, wr64 (by omega) (by omega)]
   obtain ⟨t, ht⟩ := ih (c / 10) (strOfNums [(wrap64 (48 + Int.tmod c 10)) % 256] ++ s) (by omega) (by rw [Int.pow_succ] at h1; omega) (by omega) (by rw [ByteArray.size_append, e1]; omega)
   refine ⟨t, aJ_ ?_⟩
   simp only [aB_.l0]
   refine Ev_t hc (Ev_s (Ev_t (by rw [e1]; omega) ?_))
   rw [e2]
   exact ht
 by_cases hc : c ≤ 0
 rotate_left
 ·obtain ⟨t, ht⟩ := go 19 c (⟨#[]⟩ : ByteArray) h0 (by omega) h1 (by simp [ByteArray.size])
  refine ⟨t, ?_⟩
  simp only [aB_.f]
  exact Ev_f hc ht
 refine ⟨(⟨#[109, 48]⟩ : ByteArray), ?_⟩
 simp only [aB_.f]
 exact Ev_t hc (Ev_n rfl)
theorem rdi_Block (l : List S43) (i : Nat) (h : i < l.length) : aj_ l (i : Int) = l[i] := by unfold aj_; exact getD_in l _ i h
theorem rda_Block (a b : List S43) (x : S43) (i : Nat) (h : a.length = i) : aj_ (a ++ x :: b) (i : Int) = x := by unfold aj_; exact getD_at a b _ x i h
def E_Block (x : S43) : Prop := True
theorem eq_Block (x : S43) (he : E_Block x) : Ev (fun k => bB_.f (x.f0) (x.f1) (x.f2) (x.f0) (x.f1) (x.f2)) true := by
 unfold E_Block at he
 simp only [bB_.f, if_true]
 exact Ev_n rfl
theorem eqS_Block (m : List S43) (hl : (m.length : Int) ≤ 1048576) (he : ∀ y ∈ m, E_Block y) : Ev (fun k => ax_.f k m m) true := by
 have go : ∀ (d i : Nat), i + d = m.length → Ev (fun k => ax_.l0 k m m i) true := by
  intro d
  induction d with
  | zero =>
   intro i q1
   refine aJ_ ?_
   simp only [ax_.l0]
   exact Ev_f (by omega) (Ev_n rfl)
  | succ d ih =>
   intro i q1
   refine aJ_ ?_
   simp only [ax_.l0]
   refine Ev_t (by omega) (Ev_t (by omega) (Ev_t (by omega) ?_))
   rw [rdi_Block m i (by omega)]
   refine Ev_b (eq_Block m[i] (he _ (List.getElem_mem _))) ?_
   rw [wr64s i (by omega)]
   exact Ev_t rfl (ih (i + 1) (by omega))
 simp only [ax_.f]
 exact Ev_t (by first | trivial | rfl) (go m.length 0 (by omega))
theorem mk_Block (l : List S43) (c : Int) (h0 : 0 ≤ c) (h1 : c ≤ 1000000000000000) (hl : (l.length : Int) ≤ 1000000000000) : ∃ l', l'.length = l.length ∧ Ev (fun k => aH_.f k l c) (c + 3 * l.length, l') ∧ Ev (fun k => ak_.f k l' c) (c + 3 * l.length) := by
 have go : ∀ (q p : List S43) (i : Nat) (c : Int), p.length = i → 0 ≤ c → c + 3 * q.length ≤ 100000000000000000 → (i : Int) + q.length ≤ 1000000000000 → ∃ q', q'.length = q.length ∧ Ev (fun k => aH_.l0 k (p ++ q) c i) (c + 3 * q.length, p ++ q') ∧ ∀ r : List S43, r.length = i → Ev (fun k => ak_.l0 k (r ++ q') c i) (c + 3 * q.length) := by
  intro q
  induction q with
  | nil =>
   intro p i c q1 q2 q3 q4
   refine ⟨[], rfl, aJ_ ?_, fun r hr => aJ_ ?_⟩
   ·simp only [aH_.l0]
    exact Ev_f (by simp; omega) (Ev_n (by simp))
   ·simp only [ak_.l0]
    exact Ev_f (by simp; omega) (Ev_n (by simp))
  | cons x q ih =>
   intro p i c q1 q2 q3 q4
   simp only [List.length_cons] at q3 q4
   have e0 : wrap64 (c + 1) = c + 1 := (wr64 (by omega) (by omega)).trans (by omega)
   have e1 : wrap64 (c + 1 + 1) = c + 2 := (wr64 (by omega) (by omega)).trans (by omega)
   have e2 : wrap64 (c + 2 + 1) = c + 3 := (wr64 (by omega) (by omega)).trans (by omega)
   obtain ⟨t0, ht0⟩ := markText_ev (c) (by omega) (by omega)
   obtain ⟨t1, ht1⟩ := markText_ev (c + 1) (by omega) (by omega)
   obtain ⟨t2, ht2⟩ := markText_ev (c + 2) (by omega) (by omega)
   obtain ⟨q', hq, hm, hh⟩ := ih (p ++ [(⟨t0, t1, t2⟩ : S43)]) (i + 1) (c + 3) (by simp; omega) (by omega) (by omega) (by omega)
   refine ⟨(⟨t0, t1, t2⟩ : S43) :: q', by simp [hq], aJ_ ?_, fun r hr => aJ_ ?_⟩
   ·simp only [aH_.l0, e0, e1, e2, set_at p q _ _ i q1, rda_Block p q _ i q1]
    refine Ev_t (by simp; omega) ?_
    refine Ev_b ht0 ?_
    refine Ev_t (by omega) ?_
    refine Ev_s ?_
    try simp only [e0, e1, e2, set_at p q _ _ i q1, rda_Block p q _ i q1]
    refine Ev_b ht1 ?_
    refine Ev_s ?_
    try simp only [e0, e1, e2, set_at p q _ _ i q1, rda_Block p q _ i q1]
    refine Ev_b ht2 ?_
    try simp only [e0, e1, e2, set_at p q _ _ i q1, rda_Block p q _ i q1]
    rw [wr64s i (by omega)]
    have hm' := hm
    rw [List.append_assoc, List.singleton_append, List.append_assoc, List.singleton_append] at hm'
    exact Ev_at hm' (by simp only [List.length_cons, Prod.mk.injEq, and_true]; omega)
   ·simp only [ak_.l0, e0, e1, e2, rda_Block r q' _ i hr]
    refine Ev_t (by simp; omega) ?_
    refine Ev_t (by omega) ?_
    refine Ev_b ht0 ?_
    refine Ev_t (by first | rfl | exact True.intro | omega) ?_
    refine Ev_b ht1 ?_
    refine Ev_t (by first | rfl | exact True.intro | omega) ?_
    refine Ev_b ht2 ?_
    refine Ev_t (by first | rfl | exact True.intro | omega) ?_
    rw [wr64s i (by omega)]
    have hh' := hh (r ++ [(⟨t0, t1, t2⟩ : S43)]) (by simp; omega)
    rw [List.append_assoc, List.singleton_append] at hh'
    exact Ev_at hh' (by simp only [List.length_cons]; omega)
 obtain ⟨l', e1, e2, e3⟩ := go l [] 0 c rfl h0 (by omega) (by simpa using hl)
 refine ⟨l', e1, ?_, ?_⟩
 ·simp only [aH_.f]; exact e2
 ·simp only [ak_.f]; exact e3 [] rfl
structure Ordr {κ : Type} (c : κ → κ → Int) : Prop where
 zero : ∀ a b, c a b = 0 ↔ a = b
 anti : ∀ a b, c a b < 0 ↔ 0 < c b a
 trans : ∀ a b d, c a b < 0 → c b d < 0 → c a d < 0
def lx (c : List UInt8 → List UInt8 → Int) (a b : List UInt8 × List UInt8) : Int := if c a.1 b.1 = 0 then c a.2 b.2 else c a.1 b.1
theorem Ordr.step {κ : Type} {c : κ → κ → Int} (h : Ordr c) {x y t : κ} (h1 : c x y < 0) (h2 : 0 ≤ c x t) : 0 < c y t := by
 by_cases e : c x t = 0
 rotate_left
 ·have q : c t x < 0 := (h.anti t x).2 (by omega)
  exact (h.anti t y).1 (h.trans t x y q h1)
 have := (h.zero x t).1 e
 subst this
 exact (h.anti _ _).1 h1
theorem in_f (a b c : Int) : bz_.f a b c = some (decide (b ≤ a) && decide (a ≤ c)) := by unfold bz_.f; by_cases h : a ≥ b <;> simp [h]
theorem within_f (a b c : Int) : bg_.f a b c = some (decide (b ≤ a) && decide (a ≤ c)) := by unfold bg_.f; by_cases h : a ≥ b <;> simp [h]
theorem w64 {x : Int} (h0 : -9223372036854775808 ≤ x) (h1 : x < 9223372036854775808) : wrap64 x = x := by unfold wrap64; omega
abbrev Bs (l : List UInt8) : ByteArray := ⟨l.toArray⟩
theorem Bs_app (a b : List UInt8) : Bs a ++ Bs b = Bs (a ++ b) := by
 apply ByteArray.ext
 simp
theorem aQ_ (l : List UInt8) : (Bs l).size = l.length := by simp [ByteArray.size]
theorem bK_ (s : ByteArray) : Bs s.data.toList = s := by cases s; rfl
theorem bL_ (l : List UInt8) : (Bs l).data.toList = l := by simp
def digs (u : Nat) : List Int := if h : u = 0 then [] else (48 + (u % 10 : Nat) : Int) :: digs (u / 10)
termination_by u
decreasing_by omega
theorem digs_zero : digs 0 = [] := by rw [digs, dif_pos rfl]
theorem digs_pos {u : Nat} (h : u ≠ 0) : digs u = (48 + (u % 10 : Nat) : Int) :: digs (u / 10) := by rw [digs, dif_neg h]
theorem digs_dec (u : Nat) (h : u ≠ 0) : (digs u).reverse.map (fun n => UInt8.ofNat n.toNat) = Go.Lib.decDigits u := by
 induction u using Nat.strongRecOn with
 | _ u ih =>
  rw [digs_pos h, Go.Lib.decDigits]
  by_cases h10 : u < 10
  rotate_left
  ·rw [dif_neg h10, List.reverse_cons, List.map_append, ih (u / 10) (by omega) (by omega)]
   simp only [List.map_cons, List.map_nil]
   rw [show (48 + ((u % 10 : Nat) : Int)).toNat = 48 + u % 10 by omega]
  rw [dif_pos h10, show u / 10 = 0 by omega, digs_zero, Nat.mod_eq_of_lt h10]
  simp only [List.reverse_cons, List.reverse_nil, List.nil_append, List.map_cons, List.map_nil]
  rw [show (48 + (u : Int)).toNat = 48 + u by omega]
def its (n : Int) : ByteArray := Bs (Go.Lib.itoa n)
theorem rev_ev (x3 : List Int) (hl : x3.length ≤ 1000) : ∀ (j : Nat) (x6 : List Int), j ≤ x3.length → x6.length + j ≤ 1000 → Ev (fun k => az_.l1 k x3 x6 ((j : Int) - 1)) (strOfNums (x6 ++ (x3.take j).reverse))
 | 0, x6, _, _ => by
  refine aJ_ ?_
  simp only [az_.l1]
  exact Ev_f (by omega) (Ev_n (by simp))
 | j + 1, x6, h, h2 => by
  refine aJ_ ?_
  simp only [az_.l1]
  have e : ((j + 1 : Nat) : Int) - 1 = (j : Int) := by omega
  rw [e]
  refine Ev_t (by omega) (Ev_t (by omega) (Ev_t (by omega) (Ev_t (by omega) ?_)))
  rw [wr64 (x := (j : Int) - 1) (by omega) (by omega)]
  have hr : rd x3 (j : Int) = x3[j] := by unfold rd; exact getD_in x3 _ j (by omega)
  have := rev_ev x3 hl j (x6 ++ [rd x3 (j : Int)]) (by omega) (by simp; omega)
  refine Ev_at this ?_
  rw [hr, List.take_succ_eq_append_getElem (by omega), List.reverse_append]
  simp
theorem dec_loop (n0 : Int) : ∀ (d u : Nat) (x3 : List Int) (m : Int), u < 10 ^ d → d ≤ 19 → x3.length + d ≤ 30 → m = (if n0 < 0 then -(u : Int) else (u : Int)) → Ev (fun k => az_.l0 k n0 x3 m) (strOfNums ((x3 ++ digs u ++ (if n0 < 0 then [45] else [])).reverse)) := by
 have fin : ∀ (x : List Int), x.length ≤ 100 → Ev (fun k => az_.j1 k x) (strOfNums x.reverse) := fun x hx => by
  refine aJ_ ?_
  simp only [az_.j1]
  rw [wr64 (x := (x.length : Int) - 1) (by omega) (by omega)]
  have := rev_ev x (by omega) x.length [] (Nat.le_refl _) (by simp; omega)
  simpa using this
 have stop : ∀ (x3 : List Int), x3.length ≤ 50 → Ev (fun k => az_.l0 k n0 x3 0) (strOfNums ((x3 ++ (if n0 < 0 then [45] else [])).reverse)) := fun x3 h => by
  refine aJ_ ?_
  simp only [az_.l0]
  refine Ev_t (by simp) ?_
  by_cases c : n0 < 0
  rotate_left
  ·rw [if_neg c, List.append_nil]
   exact Ev_f c (fin _ (by omega))
  rw [if_pos c]
  exact Ev_t c (Ev_t (by omega) (fin _ (by simp; omega)))
 intro d
 induction d with
 | zero =>
  intro u x3 m hu hd hl hm
  have : u = 0 := by simpa using hu
  subst this
  have hm0 : m = 0 := by rw [hm]; split <;> rfl
  subst hm0
  rw [digs_zero, List.append_nil]
  exact stop x3 (by omega)
 | succ d ih =>
  intro u x3 m hu hd hl hm
  by_cases h0 : u = 0
  rotate_left
  ·have hu2 : u / 10 < 10 ^ d := by rw [Nat.pow_succ] at hu; omega
   have hbig : u < 10000000000000000000 := Nat.lt_of_lt_of_le hu (Nat.le_trans (Nat.pow_le_pow_right (by decide) hd) (by decide))
   refine aJ_ ?_
   simp only [az_.l0]
   have step := ih (u / 10) (x3 ++ [48 + ((u % 10 : Nat) : Int)]) (if n0 < 0 then -((u / 10 : Nat) : Int) else ((u / 10 : Nat) : Int)) hu2 (by omega) (by simp; omega) rfl
   rw [List.append_assoc x3, List.singleton_append, ← digs_pos h0] at step
   by_cases c : n0 < 0
   rotate_left
   ·rw [if_neg c] at hm step
    subst hm
    have e1 : Int.tmod (u : Int) 10 = ((u % 10 : Nat) : Int) := by rw [Int.tmod_eq_emod_of_nonneg (by omega)]; omega
    have e2 : Int.tdiv (u : Int) 10 = ((u / 10 : Nat) : Int) := by rw [Int.tdiv_eq_ediv_of_nonneg (by omega)]; omega
    refine Ev_f (by omega) ?_
    rw [e1, e2, wr64 (x := ((u / 10 : Nat) : Int)) (by omega) (by omega)]
    refine Ev_f (by omega) (Ev_t (by omega) ?_)
    rw [wr64 (x := 48 + ((u % 10 : Nat) : Int)) (by omega) (by omega), show (48 + ((u % 10 : Nat) : Int)) % 256 = 48 + ((u % 10 : Nat) : Int) by omega]
    exact step
   rw [if_pos c] at hm step
   subst hm
   have e1 : Int.tmod (-(u : Int)) 10 = -((u % 10 : Nat) : Int) := by rw [Int.neg_tmod, Int.tmod_eq_emod_of_nonneg (by omega)]; omega
   have e2 : Int.tdiv (-(u : Int)) 10 = -((u / 10 : Nat) : Int) := by rw [Int.neg_tdiv, Int.tdiv_eq_ediv_of_nonneg (by omega)]; omega
   refine Ev_f (by omega) ?_
   rw [e1, e2, wr64 (x := -((u / 10 : Nat) : Int)) (by omega) (by omega)]
   by_cases cz : u % 10 = 0
   rotate_left
   ·refine Ev_t (by omega) (Ev_t (by omega) ?_)
    rw [wr64 (x := - -((u % 10 : Nat) : Int)) (by omega) (by omega), wr64 (x := 48 + - -((u % 10 : Nat) : Int)) (by omega) (by omega), show (48 + - -((u % 10 : Nat) : Int)) % 256 = 48 + ((u % 10 : Nat) : Int) by omega]
    exact step
   refine Ev_f (by omega) (Ev_t (by omega) ?_)
   rw [wr64 (x := 48 + -((u % 10 : Nat) : Int)) (by omega) (by omega), show (48 + -((u % 10 : Nat) : Int)) % 256 = 48 + ((u % 10 : Nat) : Int) by omega]
   exact step
  subst h0
  have hm0 : m = 0 := by rw [hm]; split <;> rfl
  subst hm0
  rw [digs_zero, List.append_nil]
  exact stop x3 (by omega)
theorem dec_ev (n : Int) (h0 : -9223372036854775808 ≤ n) (h1 : n ≤ 9223372036854775807) : Ev (fun k => az_.f k n) (its n) := by
 simp only [az_.f]
 by_cases c : n = 0
 rotate_left
 ·refine Ev_f c ?_
  have := dec_loop n 19 n.natAbs [] n (by rw [show (10 : Nat) ^ 19 = 10000000000000000000 by decide]; omega) (by omega) (by simp) (by split <;> omega)
  refine Ev_at this ?_
  rw [List.nil_append, List.reverse_append]
  have hd := digs_dec n.natAbs (by omega)
  unfold its Go.Lib.itoa strOfNums Bs
  by_cases cn : n < 0
  rotate_left
  ·rw [if_neg cn, if_neg cn, List.map_append, hd, show n.toNat = n.natAbs by omega]; rfl
  rw [if_pos cn, if_pos cn, List.map_append, hd]; rfl
 subst c
 refine Ev_t rfl (Ev_n ?_)
 unfold its Go.Lib.itoa
 rw [if_neg (by decide), Go.Lib.decDigits, dif_pos (by decide)]
 rfl
theorem Decimal_f (n : Int) (h0 : -9223372036854775808 ≤ n) (h1 : n ≤ 9223372036854775807) : bj_.f n = some (its n) := by
 unfold bj_.f be_.f
 rw [if_pos ⟨rfl, h0, h1⟩]
 rfl
theorem bt_in (l : List UInt8) (i : Nat) (h : i < l.length) : bt (Bs l) (i : Int) = (l[i].toNat : Int) := by
 unfold bt
 have hs : (i : Int).toNat < (Bs l).size := by rw [aQ_]; simpa using h
 rw [dif_pos hs]
 simp
 rfl
theorem u8_eq (c : UInt8) (n : Nat) (hn : n < 256) : ((c.toNat : Int) = (n : Int)) ↔ c = UInt8.ofNat n := by
 constructor
 ·intro h
  apply UInt8.toNat.inj
  rw [UInt8.toNat_ofNat_of_lt' hn]
  omega
 ·rintro rfl
  rw [UInt8.toNat_ofNat_of_lt' hn]
def spl (c : UInt8) : List UInt8 → List (List UInt8)
 | [] => [[]]
 | b :: l => if b = c then [] :: spl c l else match spl c l with
  | h :: t => (b :: h) :: t
  | [] => [[b]]
def glue (p : List UInt8) : List (List UInt8) → List (List UInt8)
 | h :: t => (p ++ h) :: t
 | [] => [p]
theorem spl_ne (c : UInt8) : ∀ l, spl c l ≠ []
 | [] => by simp [spl]
 | b :: l => by
  rw [spl]
  split
  ·simp
  ·split <;> simp
theorem spl_len (c : UInt8) : ∀ l, (spl c l).length ≤ l.length + 1
 | [] => by simp [spl]
 | b :: l => by
  have := spl_len c l
  rw [spl]
  split
  ·simp only [List.length_cons]; omega
  ·split
   ·rename_i h t e
    rw [e] at this
    simp only [List.length_cons] at this ⊢
    omega
   ·simp
theorem glue_nil (xs : List (List UInt8)) (h : xs ≠ []) : glue [] xs = xs := by
 cases xs with
 | nil => exact absurd rfl h
 | cons a t => rfl
theorem glue_cons (p : List UInt8) (b c : UInt8) (l : List UInt8) (h : b ≠ c) : glue p (spl c (b :: l)) = glue (p ++ [b]) (spl c l) := by
 rw [spl, if_neg h]
 cases hs : spl c l with
 | nil => exact absurd hs (spl_ne c l)
 | cons a t => simp [glue]
theorem splitK_eq (c : UInt8) : ∀ s : List UInt8, Go.Lib.splitK [c] 0 (Go.Lib.count s [c]) s = spl c s
 | [] => by
  rw [Go.Lib.count_miss (by simp [Go.Lib.index])]
  rfl
 | b :: l => by
  have ih := splitK_eq c l
  by_cases h : b = c
  rotate_left
  ·rw [Go.Lib.count_cons_ne b c l h]
   have hp : ([c] : List UInt8).isPrefixOf (b :: l) = false := by simp [List.isPrefixOf, Ne.symm h]
   have hix : Go.Lib.index (b :: l) [c] = if Go.Lib.index l [c] == -1 then -1 else Go.Lib.index l [c] + 1 := by rw [Go.Lib.index, hp]; simp
   rw [spl, if_neg h]
   by_cases hm : Go.Lib.index l [c] = -1
   rotate_left
   ·have hge := Go.Lib.index_ge l [c]
    obtain ⟨j, hj⟩ : ∃ j : Nat, Go.Lib.index l [c] = j := ⟨(Go.Lib.index l [c]).toNat, by omega⟩
    have hk : ∃ k, Go.Lib.count l [c] = k + 1 := ⟨Go.Lib.count (l.drop (j + 1)) [c], by rw [Go.Lib.count_hit (by simp) hj]; simp; omega⟩
    obtain ⟨k, hk⟩ := hk
    rw [hk] at ih ⊢
    have hne : ¬ (Go.Lib.index l [c] == -1) = true := fun e => hm (beq_iff_eq.1 e)
    have hix2 : Go.Lib.index (b :: l) [c] = ((j + 1 : Nat) : Int) := by rw [hix, if_neg hne, hj]; omega
    have hne2 : ¬ (Go.Lib.index (b :: l) [c] == -1) = true := fun e => by have := beq_iff_eq.1 e; omega
    rw [Go.Lib.splitK, if_neg hne, hj] at ih
    rw [Go.Lib.splitK, if_neg hne2, hix2, ← ih]
    simp
   rw [Go.Lib.count_miss hm] at ih ⊢
   have e : spl c l = [l] := ih.symm
   rw [e]
   rfl
  subst h
  rw [Go.Lib.count_cons_eq, Nat.add_comm, spl, if_pos rfl, ← ih]
  have hix : Go.Lib.index (b :: l) [b] = 0 := by rw [Go.Lib.index]; simp [List.isPrefixOf]
  rw [Go.Lib.splitK, hix]
  rfl
theorem split_f (s : ByteArray) (hs : (s.size : Int) ≤ 1048576) (c : UInt8) : strings_Split.f s (Bs [c]) = some ((spl c s.data.toList).map Bs) := by
 unfold strings_Split.f
 rw [if_pos ⟨by omega, by rw [aQ_]; simp⟩]
 congr 1
 have h := Go.Lib.splitB_data (Bs [c]) 0 (Go.Lib.countB s (Bs [c])) s
 have e : (Bs [c]).data.toList = [c] := bL_ _
 unfold Go.Lib.countB at h
 rw [e, splitK_eq] at h
 rw [← h, List.map_map]
 unfold Go.Lib.countB
 rw [e]
 conv => lhs; rw [← List.map_id (Go.Lib.splitB (Bs [c]) 0 (Go.Lib.count s.data.toList [c]) s)]
 apply List.map_congr_left
 intro x _
 exact (bK_ x).symm
theorem split_spec (L : List UInt8) (hL : (L.length : Int) ≤ 1048576) (c : UInt8) : Ev (fun k => aC_.f k (Bs L) (c.toNat : Int)) ((spl c L).map Bs) := by
 have ex : ∀ (a p q : List UInt8) (n m : Nat), L = a ++ p ++ q → a.length = n → n + p.length = m → (Bs L).extract n m = Bs p := fun a p q n m h1 h2 h3 => by
  rw [← bK_ ((Bs L).extract n m), Go.Lib.extract_data, bL_, h1]
  congr 1
  subst h2 h3
  simp
 have go : ∀ (q p a : List UInt8) (x5 : List ByteArray), L = a ++ p ++ q → x5.length ≤ a.length → Ev (fun k => aC_.l0 k (Bs L) (c.toNat : Int) x5 (a.length : Int) ((a.length + p.length : Nat) : Int)) (x5 ++ (glue p (spl c q)).map Bs) := by
  intro q
  induction q with
  | nil =>
   intro p a x5 h h5
   have hl : L.length = a.length + p.length := by rw [h]; simp
   refine aJ_ ?_
   simp only [aC_.l0]
   rw [aQ_]
   refine Ev_f (by omega) (Ev_t (by omega) (Ev_t (by omega) (Ev_t (by omega) (Ev_n ?_))))
   rw [Int.toNat_natCast, ex a p [] a.length L.length h rfl hl.symm]
   simp [spl, glue]
  | cons b q ih =>
   intro p a x5 h h5
   have hl : L.length = a.length + p.length + (q.length + 1) := by rw [h]; simp; omega
   have hb : bt (Bs L) ((a.length + p.length : Nat) : Int) = (b.toNat : Int) := by
    rw [bt_in L (a.length + p.length) (by omega)]
    congr 2
    simp [h]
   refine aJ_ ?_
   simp only [aC_.l0]
   rw [hb, aQ_]
   refine Ev_t (by omega) (Ev_t (by omega) ?_)
   by_cases hc : b = c
   rotate_left
   ·refine Ev_f (fun e => hc ?_) ?_
    ·apply UInt8.toNat.inj
     omega
    ·rw [wr64s (a.length + p.length) (by omega), glue_cons p b c q hc]
     have := ih (p ++ [b]) a x5 (by rw [h]; simp) h5
     simpa [Nat.add_assoc] using this
   subst hc
   refine Ev_t rfl (Ev_t (by omega) (Ev_t (by omega) (Ev_t (by omega) (Ev_t (by omega) ?_))))
   rw [Int.toNat_natCast, Int.toNat_natCast, ex a p (b :: q) a.length (a.length + p.length) h rfl rfl, wr64s (a.length + p.length) (by omega)]
   have := ih [] (a ++ p ++ [b]) (x5 ++ [Bs p]) (by rw [h]; simp) (by simp; omega)
   rw [glue_nil _ (spl_ne b q)] at this
   rw [spl, if_pos rfl]
   simpa [glue, Nat.add_assoc] using this
 have := go L [] [] [] rfl (by simp)
 rw [glue_nil _ (spl_ne c L)] at this
 simp only [aC_.f]
 simpa using this
theorem rdO_in (l : List ByteArray) (i : Nat) (h : i < l.length) : rdOf ByteArray.empty l (i : Int) = l[i] := by unfold rdOf; exact getD_in l _ i h
def isD (c : UInt8) : Prop := 48 ≤ c.toNat ∧ c.toNat ≤ 57
instance (c : UInt8) : Decidable (isD c) := inferInstanceAs (Decidable (_ ∧ _))
def dstep (n : Nat) (c : UInt8) : Nat := n * 10 + (c.toNat - 48)
def dval (n : Nat) (l : List UInt8) : Nat := l.foldl dstep n
theorem dval_nil (n : Nat) : dval n [] = n := rfl
theorem dval_cons (n : Nat) (c : UInt8) (l : List UInt8) : dval n (c :: l) = dval (n * 10 + (c.toNat - 48)) l := by unfold dval; rw [List.foldl_cons, dstep]
theorem dval_snoc (c : UInt8) (l : List UInt8) (n : Nat) : dval n (l ++ [c]) = dval n l * 10 + (c.toNat - 48) := by
 unfold dval
 rw [List.foldl_append, List.foldl_cons, List.foldl_nil, dstep]
theorem dval_lt (k : Nat) : ∀ (l : List UInt8) (n : Nat), (∀ c ∈ l, isD c) → n < 10 ^ k → dval n l < 10 ^ (k + l.length)
 | [], n, _, h => by rw [dval_nil, List.length_nil, Nat.add_zero]; exact h
 | a :: l, n, hd, h => by
  have ha := hd a (List.mem_cons_self ..)
  unfold isD at ha
  have := dval_lt (k + 1) l (n * 10 + (a.toNat - 48)) (fun c hc => hd c (List.mem_cons_of_mem _ hc)) (by rw [Nat.pow_succ]; omega)
  rw [dval_cons, List.length_cons, show k + (l.length + 1) = k + 1 + l.length by omega]
  exact this
theorem dig_of (c : UInt8) (h : isD c) : UInt8.ofNat (48 + (c.toNat - 48)) = c := by
 unfold isD at h
 apply UInt8.toNat.inj
 rw [UInt8.toNat_ofNat_of_lt' (show 48 + (c.toNat - 48) < 256 by omega)]
 omega
theorem dec_dval : ∀ (n : Nat) (l : List UInt8), l.length = n → (∀ c ∈ l, isD c) → (∀ c, l.head? = some c → c.toNat ≠ 48) → l ≠ [] → Go.Lib.decDigits (dval 0 l) = l ∧ dval 0 l ≠ 0
 | 0, l, hl, _, _, h0 => absurd (List.eq_nil_of_length_eq_zero hl) h0
 | n + 1, l, hl, hd, hh, h0 => by
  obtain ⟨p, c, rfl⟩ : ∃ p c, l = p ++ [c] := ⟨l.dropLast, l.getLast h0, (List.dropLast_concat_getLast h0).symm⟩
  have hc := hd c (by simp)
  have hc2 := hc
  unfold isD at hc2
  have hlp : p.length = n := by simp at hl; omega
  rw [dval_snoc]
  by_cases hp : p = []
  rotate_left
  ·obtain ⟨h1, h2⟩ := dec_dval n p hlp (fun x hx => hd x (List.mem_append_left _ hx)) (fun x hx => hh x (by
    cases p with
    | nil => exact absurd rfl hp
    | cons a p => exact hx)) hp
   refine ⟨?_, by omega⟩
   rw [Go.Lib.decDigits, dif_neg (by omega), show (dval 0 p * 10 + (c.toNat - 48)) / 10 = dval 0 p by omega, show (dval 0 p * 10 + (c.toNat - 48)) % 10 = c.toNat - 48 by omega, h1, dig_of c hc]
  subst hp
  have hne := hh c rfl
  have e : dval 0 [] * 10 + (c.toNat - 48) = c.toNat - 48 := by rw [dval_nil]; omega
  rw [e, Go.Lib.decDigits, dif_pos (by omega), dig_of c hc]
  exact ⟨rfl, by omega⟩
theorem dec_head : ∀ u : Nat, u ≠ 0 → ∀ c, (Go.Lib.decDigits u).head? = some c → c.toNat ≠ 48 := by
 intro u
 induction u using Nat.strongRecOn with
 | _ u ih =>
  intro h c hc
  rw [Go.Lib.decDigits] at hc
  by_cases h10 : u < 10
  rotate_left
  ·rw [dif_neg h10] at hc
   refine ih (u / 10) (by omega) (by omega) c ?_
   cases hd : Go.Lib.decDigits (u / 10) with
   | nil =>
    have := Go.Lib.decDigits_length (u / 10)
    rw [hd] at this
    have := Go.Lib.nDigits_pos (u / 10)
    simp at *
    omega
   | cons a r => rw [hd] at hc; simpa using hc
  rw [dif_pos h10] at hc
  have : UInt8.ofNat (48 + u) = c := by simpa using hc
  rw [← this, UInt8.toNat_ofNat_of_lt' (show 48 + u < 256 by omega)]
  omega
theorem dec_zero : Go.Lib.decDigits 0 = [48] := by rw [Go.Lib.decDigits, dif_pos (by decide)]; rfl
def rdv (neg : Bool) (l : List UInt8) : Int × Bool :=
 if 1 ≤ l.length ∧ l.length ≤ 18 ∧ (∀ c ∈ l, isD c) ∧ (l.head? = some 48 → neg = false ∧ l.length = 1) then (if neg then -(dval 0 l : Int) else (dval 0 l : Int), true) else (0, false)
def rdl : List UInt8 → Int × Bool
 | c :: l => if c = 45 then rdv true l else rdv false (c :: l)
 | [] => rdv false []
def rdec (s : ByteArray) : Int × Bool := rdl s.data.toList
theorem pow18 : (10 : Nat) ^ 18 = 1000000000000000000 := by decide
theorem its_eq (n : Int) (l : List UInt8) : ((its n).toList = (Bs l).toList) ↔ Go.Lib.itoa n = l := by
 unfold its
 rw [ByteArray.toList_eq, ByteArray.toList_eq, bL_, bL_]
theorem itoa_pos (u : Nat) : Go.Lib.itoa (u : Int) = Go.Lib.decDigits u := Go.Lib.itoa_nonneg u
theorem impl_digits (s l : List UInt8) (hl : 1 ≤ l.length ∧ l.length ≤ 18) (neg : Bool) (hs : s = if neg then 45 :: l else l) : Ev (fun k => ao_.l0 k (Bs s) (Bs l) 0 0) (rdv neg l) := by
 have hsz : (((Bs l).size : Int) < ((Bs s).size : Int)) ↔ neg = true := by
  rw [aQ_, aQ_, hs]
  cases neg
  ·simp
  ·simp only [if_true, List.length_cons]
   exact ⟨fun _ => trivial, fun _ => by omega⟩
 have go : ∀ (q p : List UInt8), l = p ++ q → (∀ c ∈ p, isD c) → Ev (fun k => ao_.l0 k (Bs s) (Bs l) ((dval 0 p : Nat) : Int) (p.length : Int)) (rdv neg l) := by
  intro q
  induction q with
  | nil =>
   intro p hp hd
   rw [List.append_nil] at hp
   subst hp
   have hv : dval 0 l < 10 ^ (0 + l.length) := dval_lt 0 l 0 hd (by decide)
   have hv2 : dval 0 l < 1000000000000000000 := Nat.lt_of_lt_of_le hv (by rw [← pow18]; exact Nat.pow_le_pow_right (by decide) (by omega))
   refine aJ_ ?_
   simp only [ao_.l0]
   refine Ev_f (by rw [aQ_]; omega) ?_
   have h0 : l ≠ [] := fun h => by rw [h] at hl; simp at hl
   cases neg with
   | true =>
    refine Ev_t (hsz.2 rfl) ?_
    rw [wr64 (x := -((dval 0 l : Nat) : Int)) (by omega) (by omega)]
    refine Ev_b (Ev_c (Decimal_f _ (by omega) (by omega))) ?_
    have hs' : s = 45 :: l := hs
    by_cases hz : l.head? = some 48
    rotate_left
    ·have hd2 := dec_dval l.length l rfl hd (fun c hc e => hz (by rw [hc]; congr 1; exact UInt8.toNat.inj (by rw [e]; rfl))) h0
     have : (its (-((dval 0 l : Nat) : Int))).toList = (Bs s).toList := by
      rw [its_eq, hs', Go.Lib.itoa_neg _ (by omega), hd2.1]
     refine Ev_t this (Ev_n ?_)
     unfold rdv
     rw [if_pos ⟨hl.1, hl.2, hd, fun h => absurd h hz⟩]
     rfl
    have : ¬ (its (-((dval 0 l : Nat) : Int))).toList = (Bs s).toList := by
     rw [its_eq, hs']
     intro e
     by_cases hv0 : dval 0 l = 0
     rotate_left
     ·rw [Go.Lib.itoa_neg _ (by omega)] at e
      have e2 := List.cons.inj e
      have := dec_head _ hv0 48 (by rw [e2.2]; exact hz)
      exact this rfl
     rw [hv0] at e
     have : Go.Lib.itoa 0 = [48] := (itoa_pos 0).trans dec_zero
     rw [show (-((0 : Nat) : Int)) = 0 by rfl, this] at e
     cases e
    refine Ev_f this (Ev_n ?_)
    unfold rdv
    rw [if_neg (fun h => by have := (h.2.2.2 hz).1; cases this)]
   | false =>
    refine Ev_f (fun h => by have := hsz.1 h; cases this) ?_
    refine Ev_b (Ev_c (Decimal_f _ (by omega) (by omega))) ?_
    have hs' : s = l := hs
    by_cases hz : l.head? = some 48
    rotate_left
    ·have hd2 := dec_dval l.length l rfl hd (fun c hc e => hz (by rw [hc]; congr 1; exact UInt8.toNat.inj (by rw [e]; rfl))) h0
     have : (its ((dval 0 l : Nat) : Int)).toList = (Bs s).toList := by
      rw [its_eq, hs', itoa_pos, hd2.1]
     refine Ev_t this (Ev_n ?_)
     unfold rdv
     rw [if_pos ⟨hl.1, hl.2, hd, fun h => absurd h hz⟩]
     rfl
    by_cases h1 : l.length = 1
    rotate_left
    ·have : ¬ (its ((dval 0 l : Nat) : Int)).toList = (Bs s).toList := by
      rw [its_eq, hs', itoa_pos]
      intro e
      by_cases hv0 : dval 0 l = 0
      rotate_left
      ·have := dec_head _ hv0 48 (by rw [e]; exact hz)
       exact this rfl
      rw [hv0, dec_zero] at e
      rw [← e] at h1
      exact h1 rfl
     refine Ev_f this (Ev_n ?_)
     unfold rdv
     rw [if_neg (fun h => h1 (h.2.2.2 hz).2)]
    have hl1 : l = [48] := by
     cases l with
     | nil => simp at h1
     | cons a r =>
      have : r = [] := by simpa using h1
      subst this
      have : a = 48 := by simpa using hz
      rw [this]
    have : (its ((dval 0 l : Nat) : Int)).toList = (Bs s).toList := by
     rw [its_eq, hs', itoa_pos, hl1]
     exact dec_zero
    refine Ev_t this (Ev_n ?_)
    unfold rdv
    rw [if_pos ⟨hl.1, hl.2, hd, fun _ => ⟨rfl, h1⟩⟩]
    rfl
  | cons c q ih =>
   intro p hp hd
   have hlen : p.length < l.length := by rw [hp]; simp
   have hc : bt (Bs l) (p.length : Int) = (c.toNat : Int) := by
    rw [bt_in l p.length hlen]
    congr 2
    simp [hp]
   have hv : dval 0 p < 10 ^ (0 + p.length) := dval_lt 0 p 0 hd (by decide)
   have hv2 : dval 0 p < 100000000000000000 := Nat.lt_of_lt_of_le hv (by rw [show (100000000000000000 : Nat) = 10 ^ 17 by decide]; exact Nat.pow_le_pow_right (by decide) (by omega))
   have hnd : ¬ isD c → rdv neg l = (0, false) := fun h => by
    unfold rdv
    rw [if_neg (fun h2 => h (h2.2.2.1 c (by rw [hp]; simp)))]
   refine aJ_ ?_
   simp only [ao_.l0]
   rw [hc]
   refine Ev_t (by rw [aQ_]; omega) (Ev_t (by omega) ?_)
   by_cases h1 : c.toNat < 48
   ·exact Ev_t (by omega) (Ev_n (hnd (by unfold isD; omega)).symm)
   refine Ev_f (by omega) ?_
   by_cases h2 : 57 < c.toNat
   ·exact Ev_t (by omega) (Ev_n (hnd (by unfold isD; omega)).symm)
   refine Ev_f (by omega) ?_
   have := ih (p ++ [c]) (by rw [hp]; simp) (fun x hx => by
    rcases List.mem_append.1 hx with h | h
    ·exact hd x h
    ·have : x = c := by simpa using h
     subst this
     unfold isD
     omega)
   rw [dval_snoc] at this
   rw [wr64 (x := ((dval 0 p : Nat) : Int) * 10) (by omega) (by omega), wr64s p.length (by omega), wr64 (x := ((dval 0 p : Nat) : Int) * 10 + _) (by omega) (by omega), show ((dval 0 p : Nat) : Int) * 10 + ((c.toNat : Int) - 48) % 256 = ((dval 0 p * 10 + (c.toNat - 48) : Nat) : Int) by omega]
   simpa using this
 exact go l [] rfl (fun _ h => by cases h)
theorem prefix_f (s : List UInt8) : strings_HasPrefix.f (Bs s) (⟨#[45]⟩ : ByteArray) = some (decide (s.head? = some 45)) := by
 unfold strings_HasPrefix.f stringslite_HasPrefix.f
 have h1 : (⟨#[45]⟩ : ByteArray).size = 1 := rfl
 rw [h1, aQ_]
 cases s with
 | nil => rw [if_neg (by simp)]; rfl
 | cons c r =>
  rw [List.length_cons, if_pos (by omega), if_pos (by omega), if_pos (by omega)]
  have e : ((Bs (c :: r)).extract 0 (((1 : Nat) : Int)).toNat).toList = [c] := by
   rw [ByteArray.toList_eq, Go.Lib.extract_from_zero]
   simp
  have e2 : (⟨#[45]⟩ : ByteArray).toList = [45] := by rw [ByteArray.toList_eq]
  rw [e, e2]
  simp only [Option.bind_some, Option.some.injEq, List.head?_cons]
  by_cases hc : c = 45
  rotate_left
  ·simp [hc]
  subst hc; rfl
theorem read_impl (s : ByteArray) : Ev (fun k => ao_.f k s) (rdec s) := by
 rw [← bK_ s]
 obtain ⟨l, hl⟩ : ∃ l, l = s.data.toList := ⟨_, rfl⟩
 rw [← hl]
 have core : ∀ (neg : Bool) (d : List UInt8), (l = if neg then 45 :: d else d) → Ev (fun k => ao_.j0 k (Bs l) (Bs d)) (rdv neg d) := by
  intro neg d hd
  have bad : ¬ (1 ≤ d.length ∧ d.length ≤ 18) → rdv neg d = (0, false) := fun h => by
   unfold rdv
   rw [if_neg (fun h2 => h ⟨h2.1, h2.2.1⟩)]
  refine aJ_ ?_
  simp only [ao_.j0]
  by_cases h1 : ((Bs d).size : Int) < 1
  rotate_left
  ·refine Ev_f h1 (aJ_ ?_)
   simp only [ao_.j1]
   rw [aQ_] at h1
   by_cases h2 : 18 < d.length
   rotate_left
   ·exact Ev_f (by rw [aQ_]; simp; omega) (impl_digits l d ⟨by omega, by omega⟩ neg hd)
   exact Ev_t (by rw [aQ_]; simp; omega) (Ev_n (bad (by omega)).symm)
  refine Ev_t h1 (aJ_ ?_)
  simp only [ao_.j1]
  rw [aQ_] at h1
  exact Ev_t (by simp) (Ev_n (bad (by omega)).symm)
 simp only [ao_.f]
 rw [prefix_f]
 rw [show rdec (Bs l) = rdl l by unfold rdec; rw [bL_]]
 refine Ev_s ?_
 cases l with
 | nil => exact Ev_f (by simp) (core false [] rfl)
 | cons c r =>
  by_cases hc : c = 45
  rotate_left
  ·rw [rdl, if_neg hc]
   exact Ev_f (by simpa using hc) (core false (c :: r) rfl)
  subst hc
  refine Ev_t (by simp) (Ev_t (by rw [aQ_, List.length_cons]; omega) ?_)
  rw [rdl, if_pos rfl]
  have : (Bs (45 :: r)).extract 1 (Bs (45 :: r)).size = Bs r := by
   rw [← bK_ ((Bs (45 :: r)).extract 1 (Bs (45 :: r)).size), Go.Lib.extract_to_end]
   simp
  rw [this]
  exact core true r rfl
theorem digit_f (c : UInt8) : bh_.f (c.toNat : Int) = some (decide (isD c)) := by
 unfold bh_.f
 by_cases h : (c.toNat : Int) ≥ 48
 rotate_left
 ·rw [if_neg h]
  congr 1
  symm
  rw [decide_eq_false_iff_not]
  unfold isD
  omega
 rw [if_pos h]
 congr 1
 rw [decide_eq_decide]
 unfold isD
 omega
theorem spec_digits (neg : Bool) (l : List UInt8) (hl : 1 ≤ l.length ∧ l.length ≤ 18) (hz : l.head? = some 48 → neg = false ∧ l.length = 1) (a : Int) (ha : a = if neg then 1 else 0) : Ev (fun k => ag_.l0 k (Bs (if neg then 45 :: l else l)) a 0 a) (rdv neg l) := by
 obtain ⟨s, hs⟩ : ∃ s, s = (if neg then 45 :: l else l) := ⟨_, rfl⟩
 obtain ⟨an, hn⟩ : ∃ an : Nat, an = (if neg then 1 else 0) := ⟨_, rfl⟩
 have han : a = (an : Int) := by rw [ha, hn]; cases neg <;> rfl
 have hsl : s.length = an + l.length := by rw [hs, hn]; cases neg <;> simp <;> omega
 have hsd : s.drop an = l := by rw [hs, hn]; cases neg <;> rfl
 rw [← hs, han]
 have go : ∀ (q p : List UInt8), l = p ++ q → (∀ c ∈ p, isD c) → Ev (fun k => ag_.l0 k (Bs s) (an : Int) ((dval 0 p : Nat) : Int) ((an + p.length : Nat) : Int)) (rdv neg l) := by
  intro q
  induction q with
  | nil =>
   intro p hp hd
   rw [List.append_nil] at hp
   subst hp
   have hv : dval 0 l < 10 ^ (0 + l.length) := dval_lt 0 l 0 hd (by decide)
   have hv2 : dval 0 l < 1000000000000000000 := Nat.lt_of_lt_of_le hv (by rw [← pow18]; exact Nat.pow_le_pow_right (by decide) (by omega))
   refine aJ_ ?_
   simp only [ag_.l0]
   refine Ev_f (by rw [aQ_, hsl]; omega) ?_
   have e : rdv neg l = (if neg then -(dval 0 l : Int) else (dval 0 l : Int), true) := by unfold rdv; rw [if_pos ⟨hl.1, hl.2, hd, hz⟩]
   rw [e]
   cases neg with
   | true =>
    have : an = 1 := hn
    refine Ev_t (by omega) (Ev_n ?_)
    rw [wr64 (by omega) (by omega)]
    rfl
   | false =>
    have : an = 0 := hn
    exact Ev_f (by omega) (Ev_n rfl)
  | cons c q ih =>
   intro p hp hd
   have hlen : p.length < l.length := by rw [hp]; simp
   have hc : bt (Bs s) ((an + p.length : Nat) : Int) = (c.toNat : Int) := by
    rw [bt_in s (an + p.length) (by omega)]
    congr 2
    have h1 : s[an + p.length]'(by omega) = (s.drop an)[p.length]'(by rw [hsd]; exact hlen) := by rw [List.getElem_drop]
    rw [h1]
    simp [hsd, hp]
   have hv : dval 0 p < 10 ^ (0 + p.length) := dval_lt 0 p 0 hd (by decide)
   have hv2 : dval 0 p < 100000000000000000 := Nat.lt_of_lt_of_le hv (by rw [show (100000000000000000 : Nat) = 10 ^ 17 by decide]; exact Nat.pow_le_pow_right (by decide) (by omega))
   refine aJ_ ?_
   simp only [ag_.l0]
   rw [hc]
   refine Ev_t (by rw [aQ_, hsl]; omega) (Ev_t (by omega) (Ev_b (Ev_c (digit_f c)) ?_))
   by_cases h1 : isD c
   rotate_left
   ·refine Ev_f (by simpa using h1) (Ev_n ?_)
    unfold rdv
    rw [if_neg (fun h2 => h1 (h2.2.2.1 c (by rw [hp]; simp)))]
   refine Ev_t (by simpa using h1) ?_
   have h2 := h1
   unfold isD at h2
   have := ih (p ++ [c]) (by rw [hp]; simp) (fun x hx => by
    rcases List.mem_append.1 hx with h | h
    ·exact hd x h
    ·have : x = c := by simpa using h
     subst this
     exact h1)
   rw [dval_snoc] at this
   rw [wr64 (x := 10 * ((dval 0 p : Nat) : Int)) (by omega) (by omega), wr64s (an + p.length) (by omega), wr64 (x := 10 * ((dval 0 p : Nat) : Int) + _) (by omega) (by omega), show 10 * ((dval 0 p : Nat) : Int) + ((c.toNat : Int) - 48) % 256 = ((dval 0 p * 10 + (c.toNat - 48) : Nat) : Int) by omega]
   simpa [Nat.add_assoc] using this
 have := go l [] rfl (fun _ h => by cases h)
 simpa [dval_nil] using this
theorem read_spec (s : ByteArray) (hs : (s.size : Int) ≤ 1048576) : Ev (fun k => ag_.f k s) (rdec s) := by
 rw [← bK_ s] at hs ⊢
 obtain ⟨l, hl⟩ : ∃ l, l = s.data.toList := ⟨_, rfl⟩
 rw [← hl] at hs ⊢
 rw [aQ_] at hs
 have core : ∀ (neg : Bool) (d : List UInt8), (l = if neg then 45 :: d else d) → Ev (fun k => ag_.j1 k (Bs l) (if neg then 1 else 0)) (rdv neg d) := by
  intro neg d hd
  have hll : l.length = (if neg then 1 else 0) + d.length := by rw [hd]; cases neg <;> simp <;> omega
  obtain ⟨an, hn⟩ : ∃ an : Nat, an = (if neg then 1 else 0) := ⟨_, rfl⟩
  have han : (if neg then (1 : Int) else 0) = (an : Int) := by rw [hn]; cases neg <;> rfl
  rw [← hn] at hll
  have bad : ¬ (1 ≤ d.length ∧ d.length ≤ 18) → rdv neg d = (0, false) := fun h => by
   unfold rdv
   rw [if_neg (fun h2 => h ⟨h2.1, h2.2.1⟩)]
  have no : rdv neg d = (0, false) → Ev (fun k => ag_.j2 k (Bs l) (an : Int) true) (rdv neg d) := fun h => by
   refine aJ_ ?_
   simp only [ag_.j2]
   exact Ev_t (by simp) (Ev_n h.symm)
  rw [han]
  refine aJ_ ?_
  simp only [ag_.j1]
  rw [aQ_]
  by_cases h1 : (l.length : Int) = (an : Int)
  ·exact Ev_t h1 (no (bad (by omega)))
  refine Ev_f h1 ?_
  rw [wr64 (by omega) (by omega)]
  by_cases h2 : 18 < d.length
  ·exact Ev_t (by omega) (no (bad (by omega)))
  refine Ev_f (by omega) (Ev_t (by omega) (Ev_t (by omega) ?_))
  have hb : bt (Bs l) (an : Int) = ((d[0]'(by omega)).toNat : Int) := by
   rw [bt_in l an (by omega)]
   congr 2
   cases neg with
   | true =>
    have : an = 1 := hn
    subst this
    simp [hd]
   | false =>
    have : an = 0 := hn
    subst this
    simp [hd]
  rw [hb]
  have hh : d.head? = some (d[0]'(by omega)) := by
   cases d with
   | nil => simp at hll; omega
   | cons a r => rfl
  have fin : (d.head? = some 48 → neg = false ∧ d.length = 1) → Ev (fun k => ag_.j2 k (Bs l) (an : Int) false) (rdv neg d) := fun hz => by
   refine aJ_ ?_
   simp only [ag_.j2]
   refine Ev_f (by simp) ?_
   have := spec_digits neg d ⟨by omega, by omega⟩ hz (an : Int) han.symm
   rw [← hd] at this
   exact this
  by_cases h3 : d[0]'(by omega) = 48
  rotate_left
  ·refine Ev_f (fun e => h3 ?_) (fin (fun e => absurd (by rw [hh] at e; exact Option.some.inj e) h3))
   exact (u8_eq _ 48 (by decide)).1 e
  have h48 : d.head? = some 48 := by rw [hh, h3]
  refine Ev_t (by rw [h3]; rfl) ?_
  by_cases h4 : (l.length : Int) > 1
  rotate_left
  ·rw [decide_eq_false h4]
   refine fin (fun _ => ?_)
   cases neg with
   | true =>
    have : an = 1 := hn
    omega
   | false =>
    have : an = 0 := hn
    exact ⟨rfl, by omega⟩
  rw [decide_eq_true h4]
  refine no ?_
  unfold rdv
  rw [if_neg (fun h => by
   obtain ⟨e1, e2⟩ := h.2.2.2 h48
   subst e1
   have : an = 0 := hn
   omega)]
 simp only [ag_.f]
 rw [show rdec (Bs l) = rdl l by unfold rdec; rw [bL_]]
 have j : ∀ b : Bool, Ev (fun k => ag_.j1 k (Bs l) (if b then 1 else 0)) (rdl l) → Ev (fun k => ag_.j0 k (Bs l) 0 b) (rdl l) := fun b h => by
  refine aJ_ ?_
  simp only [ag_.j0]
  cases b with
  | true => exact Ev_t rfl h
  | false => exact Ev_f (by decide) h
 cases l with
 | nil => exact Ev_f (by simp [aQ_]) (j false (core false [] rfl))
 | cons c r =>
  refine Ev_t (by rw [aQ_, List.length_cons]; omega) (Ev_t (by rw [aQ_, List.length_cons]; omega) ?_)
  have hb : bt (Bs (c :: r)) 0 = (c.toNat : Int) := bt_in (c :: r) 0 (by simp)
  rw [hb]
  by_cases hc : c = 45
  rotate_left
  ·have : ((c.toNat : Int) == 45) = false := by
    rw [beq_eq_false_iff_ne]
    intro e
    exact hc ((u8_eq c 45 (by decide)).1 e)
   rw [this]
   refine j false ?_
   rw [rdl, if_neg hc]
   exact core false (c :: r) rfl
  subst hc
  have : (((45 : UInt8).toNat : Int) == 45) = true := rfl
  rw [this]
  refine j true ?_
  rw [rdl, if_pos rfl]
  exact core true r rfl
theorem toList_len (x : ByteArray) : x.toList.length = x.size := by
 rw [Go.ByteArray.toList_eq x, Array.length_toList]; rfl
theorem name_round (k : Nat) (x : ByteArray) (i : Int) : aA_.l0 k x i = ar_.l0 k x i := by
 induction k generalizing i with
 | zero => rfl
 | succ k ih =>
  simp only [aA_.l0, ar_.l0, ih, bi_.f, bh_.f]
  by_cases h1 : i < (x.size : Int)
  rotate_left
  ·rw [if_neg h1, if_neg h1]
  rw [if_pos h1, if_pos h1]
  by_cases h2 : 0 ≤ i
  rotate_left
  ·rw [if_neg h2, if_neg h2]
  rw [if_pos h2, if_pos h2]
  generalize bt x i = c
  by_cases h3 : c < 97
  rotate_left
  ·rw [if_neg h3, if_pos (show c ≥ 97 by omega)]
   by_cases h4 : c > 122
   rotate_left
   ·rw [if_neg h4]; simp [show c ≤ 122 by omega]
   simp [h4, show ¬ c < 48 by omega, show c > 57 by omega, show ¬ c ≤ 122 by omega, show ¬ c ≤ 57 by omega]
  rw [if_pos h3, if_neg (by omega)]
  by_cases h4 : c < 48
  rotate_left
  ·rw [if_neg h4, if_pos (by omega)]
   by_cases h5 : c > 57
   rotate_left
   ·rw [if_neg h5]; simp [show c ≤ 57 by omega]
   rw [if_pos h5]; simp [show ¬ c ≤ 57 by omega]
  rw [if_pos h4, if_neg (by omega)]; simp
theorem name_same (k : Nat) (x : ByteArray) : aA_.f k x = ar_.f k x := by
 have hj : ∀ b, aA_.j0 k x b = ar_.j0 k x b := by
  intro b
  cases k with
  | zero => rfl
  | succ k => simp only [aA_.j0, ar_.j0, name_round]
 unfold aA_.f ar_.f bi_.f
 simp only [hj]
 by_cases h0 : x.toList = []
 rotate_left
 ·have : x.size ≠ 0 := by
   intro e; apply h0; apply List.eq_nil_of_length_eq_zero; rw [toList_len, e]
  rw [if_neg h0, if_neg (show ¬ (x.size : Int) < 1 by omega)]
  by_cases h1 : (x.size : Int) > 10
  rotate_left
  ·rw [if_neg h1, if_neg h1, if_pos (show 0 < (x.size : Int) by omega), if_pos (show 0 < (x.size : Int) by omega)]
   generalize bt x 0 = c
   by_cases h3 : c < 97
   rotate_left
   ·rw [if_neg h3, if_pos (show c ≥ 97 by omega)]
    simp only [Option.bind_some]
    congr 1
    by_cases h4 : c > 122
    rotate_left
    ·simp [h4, show c ≤ 122 by omega]
    simp [h4, show ¬ c ≤ 122 by omega]
   rw [if_pos h3, if_neg (show ¬ c ≥ 97 by omega)]; rfl
  rw [if_pos h1, if_pos h1]
 have : x.size = 0 := by rw [← toList_len, h0]; rfl
 rw [if_pos h0, if_pos (by omega)]
theorem name_ev (x : ByteArray) : ∃ b, ∀ k, 12 < k → ar_.f k x = some b := by
 have go : ∀ (d : Nat) (i : Int), 0 ≤ i → i + d = x.size → (x.size : Int) ≤ 10 → ∃ b, ∀ k, d < k → ar_.l0 k x i = some b := by
  intro d
  induction d with
  | zero =>
   intro i h0 h1 _
   refine ⟨true, fun k hk => ?_⟩
   obtain ⟨k, rfl⟩ : ∃ m, k = m + 1 := ⟨k - 1, by omega⟩
   simp only [ar_.l0]
   rw [if_neg (by omega)]
  | succ d ih =>
   intro i h0 h1 h2
   obtain ⟨b, hb⟩ := ih (i + 1) (by omega) (by omega) h2
   by_cases h3 : bt x i < 97
   rotate_left
   ·by_cases h4 : bt x i > 122
    rotate_left
    ·refine ⟨b, fun k hk => ?_⟩
     obtain ⟨k, rfl⟩ : ∃ m, k = m + 1 := ⟨k - 1, by omega⟩
     simp only [ar_.l0]
     rw [if_pos (by omega), if_pos h0, if_neg h3, if_neg h4, w64 (by omega) (by omega), hb k (by omega)]
    refine ⟨false, fun k hk => ?_⟩
    obtain ⟨k, rfl⟩ : ∃ m, k = m + 1 := ⟨k - 1, by omega⟩
    simp only [ar_.l0]
    rw [if_pos (by omega), if_pos h0, if_neg h3, if_pos h4, if_neg (by omega), if_pos (by omega)]
   by_cases h4 : bt x i < 48
   rotate_left
   ·by_cases h5 : bt x i > 57
    rotate_left
    ·refine ⟨b, fun k hk => ?_⟩
     obtain ⟨k, rfl⟩ : ∃ m, k = m + 1 := ⟨k - 1, by omega⟩
     simp only [ar_.l0]
     rw [if_pos (by omega), if_pos h0, if_pos h3, if_neg h4, if_neg h5, w64 (by omega) (by omega), hb k (by omega)]
    refine ⟨false, fun k hk => ?_⟩
    obtain ⟨k, rfl⟩ : ∃ m, k = m + 1 := ⟨k - 1, by omega⟩
    simp only [ar_.l0]
    rw [if_pos (by omega), if_pos h0, if_pos h3, if_neg h4, if_pos h5]
   refine ⟨false, fun k hk => ?_⟩
   obtain ⟨k, rfl⟩ : ∃ m, k = m + 1 := ⟨k - 1, by omega⟩
   simp only [ar_.l0]
   rw [if_pos (by omega), if_pos h0, if_pos h3, if_pos h4]
 have hj : ∀ (b : Bool), (b = false → (x.size : Int) ≤ 10) → ∃ c, ∀ k, 12 < k → ar_.j0 k x b = some c := by
  intro b hs
  cases b with
  | true =>
   refine ⟨false, fun k hk => ?_⟩
   obtain ⟨k, rfl⟩ : ∃ m, k = m + 1 := ⟨k - 1, by omega⟩
   simp only [ar_.j0, if_true]
  | false =>
   obtain ⟨c, hc⟩ := go x.size 0 (by omega) (by omega) (hs rfl)
   have := hs rfl
   refine ⟨c, fun k hk => ?_⟩
   obtain ⟨k, rfl⟩ : ∃ m, k = m + 1 := ⟨k - 1, by omega⟩
   simp only [ar_.j0]
   rw [if_neg (by decide), hc k (by omega)]
 unfold ar_.f
 by_cases h1 : (x.size : Int) < 1
 rotate_left
 ·simp only [if_neg h1]
  by_cases h2 : (x.size : Int) > 10
  rotate_left
  ·simp only [if_neg h2, if_pos (show 0 < (x.size : Int) by omega)]
   by_cases h3 : bt x 0 < 97
   rotate_left
   ·simp only [if_neg h3]; exact hj _ (fun _ => by omega)
   simp only [if_pos h3]; exact hj true (by intro h; cases h)
  simp only [if_pos h2]; exact hj true (by intro h; cases h)
 simp only [if_pos h1]; exact hj true (by intro h; cases h)
end Go.Proofs.YtjebkmfljcanlaaDoor.Q
