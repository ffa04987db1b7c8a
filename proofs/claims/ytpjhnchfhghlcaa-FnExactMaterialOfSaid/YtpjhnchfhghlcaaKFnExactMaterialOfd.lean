/- The statement FnExactMaterialOf: for all pictures and rates the program and the reference give the same cost of the veneers and the same code; what is handed over stays as it is. This text holds the functions' walks and the words for them. -/
import Derived.Test.YtpjhnchfhghlcaaKFnExactMaterialOfa
import Derived.Test.YtpjhnchfhghlcaaKFnExactMaterialOfb
import Derived.Test.YtpjhnchfhghlcaaKFnExactMaterialOfc
set_option linter.unusedVariables false
set_option linter.unusedSimpArgs false
namespace Go.Proofs.Ytpjhnchfhghlcaa.Q
open Go.RowKit Go.Proofs.YtpjhnchfhghlcaaW.PrintWords Go.Proofs.YtpjhnchfhghlcaaW.PrintLast Go.Proofs.YtpjhnchfhghlcaaW.PrintMore
attribute [local go_sem] aB_ aE_ aN_ aO_ ax_ aw_ aD_ aC_
def aP_.l0 : Nat → List (S40) → List (S42) → Int → Int → Option (Int)
 | 0, _, _, _, _ => none
 | k + 1, x0, x1, x5, x6 => if 0 < (x0.length : Int) then (if x6 < (((aT_ x0 0).f1).length : Int) then ((cB_.f k [(aT_ x0 0).f0] x6).bind fun t104 => ((bx_.f k t104).bind fun t107 => ((cZ_.f).bind fun t108 => (if 0 ≤ x6 then ((bB_.f k ((aR_ ((aT_ x0 0).f1) x6).f0)).bind fun t113 => (if 0 ≤ t113 then (if t113 < (t108.length : Int) then (if 0 < (x1.length : Int) then (aP_.l0 k x0 x1 (wrap64 (x5 + (wrap64 ((wrap64 (t107 * (rd t108 t113))) * (wrap64 (100 + ((bC_ x1 0).f3))))))) (wrap64 (x6 + 1))) else (none)) else (none)) else (none))) else (none))))) else ((spec_l28Up.f x5 200000000).bind fun t102 => (some t102))) else (none)
def aP_.f (k : Nat) (l0 : List (S40)) (l1 : List (S42)) : Option (Int) := aP_.l0 k l0 l1 0 0
def aP_.T5 : Bool × List (List Nat × List Nat) := (true, [([], []), ([], []), ([1], [1]), ([2], [2]), ([], []), ([3, 4], [3, 4]), ([5, 5], [5]), ([6], []), ([], []), ([8], [8]), ([9], [9]), ([10], [10]), ([], []), ([11, 12], [11, 12]), ([13], [13]), ([14], [14]), ([15, 7], [15]), ([7, 16], [7, 16]), ([17], [17]), ([6, 18], [6, 18]), ([], []), ([20], [20]), ([21], [21]), ([22], [22]), ([23], [23]), ([19, 24], [19, 24]), ([0, 25], [0, 25]), ([26, 16, 0, 1, 2, 3, 4, 5, 6, 7, 8, 9, 10, 11, 12, 13, 14, 15, 16, 17, 18, 19, 20, 21, 22, 23, 24, 25, 26], [0, 26])])
def aP_.B5 : List Nat := [0, 0, 2, 6, 0, 30, 62, 126, 0, 256, 768, 1792, 0, 7936, 16128, 32512, 65534, 131070, 262142, 524286, 0, 1048576, 3145728, 7340032, 15728640, 33554430, 67108863, 134217727]
theorem aP_.tab5 : rtab .any (opsOf Try.f13 5) = aP_.T5 := by kernel_rfl
theorem aP_.bits5 : cj_ aP_.T5.2 aP_.B5 = true := by kernel_rfl
set_option maxHeartbeats 8000000 in
set_option maxRecDepth 100000 in
theorem aP_.calls (k : Nat) (A0 : Option Addr) (l0 : List (S40)) (A1 : Option Addr) (l1 : List (S42)) (r : Int) (w : World) (hr0 : Kd.C k40 w A0 l0.length l0) (hr1 : Kd.C k42 w A1 l1.length l1) (h : aP_.f k l0 l1 = some r) :
  Calls Try.prog 13 #[.pointer A0, .pointer A1] w fun e w' => e = .returned (.int .i64 r) ∧ Below w.heap.size w w' := by
 have HR0 := Aside0.mk hr0
 clear hr0
 have HR1 := Aside0.mk hr1
 clear hr1
 have HB := Aside0.mk (Below.refl w.heap.size w)
 have H : (aP_.l0 k l0 l1 0 0) = some r := h
 clear h
 have H' := Aside0.mk H
 clear H
 go_enter Try.func13, Try.ntmps13
 go_wp2
 (try simp only [Act.put, lsa_, ls0_, ls1_])
 go_loopg [5, 6] k (fun kq v5 v6 w' => ∃ (x5_1 : Int) (x6_1 : Int), v5 = .int .i64 x5_1 ∧ v6 = .int .i64 x6_1 ∧ Aside0 (aP_.l0 kq l0 l1 x5_1 x6_1 = some r) ∧ Aside0 (kq ≤ k) ∧ Aside0 (Below w.heap.size w w'))
 case atStart => exact ⟨(0), (0), (by first | rfl | (simp; done) | (simp [*]; done)), (by first | rfl | (simp; done) | (simp [*]; done)), H', ⟨Nat.le_refl _⟩, ⟨bz HB.out⟩⟩
 case round =>
  clear H'
  obtain ⟨x5_1, x6_1, rfl, rfl, HA, HK1, HB⟩ := hrel
  cases gk with
  | zero => exact absurd HA.out (by simp [aP_.l0])
  | succ k1 =>
   have H := HA.out
   clear HA
   simp only [aP_.l0] at H
   by_cases c3 : 0 < (l0.length : Int)
   rotate_left
   ·rw [if_neg c3] at H
    exact absurd H (by simp)
   rw [if_pos c3] at H
   have c3b0 : decide (0 < (l0.length : Int)) = true := decide_eq_true c3
   have c3b1 : decide (0 < l0.length) = true := decide_eq_true (by omega)
   clear c3
   by_cases c4 : x6_1 < (((aT_ l0 0).f1).length : Int)
   rotate_left
   ·rw [if_neg c4] at H
    have c4b0 : decide (x6_1 < (((aT_ l0 0).f1).length : Int)) = false := decide_eq_false c4
    clear c4
    replace H := Option.bind_eq_some_iff.mp H
    obtain ⟨t102, A200, H⟩ := H
    (try dsimp only at H)
    have A20 := Aside0.mk A200
    clear A200
    obtain rfl := Option.some.inj H
    have p101 : 0 ≤ (0 : Int) := (by omega)
    have q101 : 0 < (l0.length : Int) := of_decide_eq_true (by assumption)
    obtain ⟨ad101, A101_2, c101_2, A101_3, c101_3, A101_4, c101_4, e101, hx101_0, hx101_1, hx101_2, hx101_3, hx101_4, hl101_2, hi101_2, hl101_3, hi101_3, hl101_4, hi101_4⟩ := at_T40 HR0.out 0 p101 q101
    cases e101
    have qi101 : (0 < l0.length) = True := eq_true (by omega)
    (try simp only [Int.toNat_zero, Nat.zero_mul, Addr.add_zero'] at hx101_0 hx101_1)
    (try simp only [Int.toNat_zero, Nat.zero_mul, Addr.add_zero'] at hx101_2 hx101_3 hx101_4)
    replace hx101_0 := bu_ HB.out hx101_0
    replace hx101_1 := bu_ HB.out hx101_1
    replace hx101_2 := bu_ HB.out hx101_2
    replace hx101_3 := bu_ HB.out hx101_3
    replace hx101_4 := bu_ HB.out hx101_4
    have HR101_2 := Aside0.mk hi101_2
    have HC101_2 := Aside0.mk hl101_2
    clear hi101_2 hl101_2
    have HR101_3 := Aside0.mk hi101_3
    have HC101_3 := Aside0.mk hl101_3
    clear hi101_3 hl101_3
    have HR101_4 := Aside0.mk hi101_4
    have HC101_4 := Aside0.mk hl101_4
    clear hi101_4 hl101_4
    replace p101 := eq_true p101
    replace q101 := eq_true q101
    go_wp2_with (first | ((with_reducible refine an_ (f := 33) rfl ?_); refine aU_ (some 44) rfl rfl Try.func33 (by kernel_rfl) rfl #[.int .i64 x5_1, .int .i64 200000000] rfl (by first | rfl | (simp only [lma_, lmc_, lmn_]; first | done | rfl)) ?_; (with_reducible refine (spec_l28Up.calls x5_1 200000000 t102 _ A20.out).mono ?_); rintro e w' ⟨rfl, ⟨nd, rfl⟩⟩; refine ⟨_, rfl, ?_⟩))
    go_ret
    exact ⟨by first | rfl | (simp [*, ah_, ai_] <;> rfl), bz HB.out⟩
   rw [if_pos c4] at H
   have c4b0 : decide (x6_1 < (((aT_ l0 0).f1).length : Int)) = true := decide_eq_true c4
   clear c4
   replace H := Option.bind_eq_some_iff.mp H
   obtain ⟨t104, A50, H⟩ := H
   (try dsimp only at H)
   have A5 := Aside0.mk A50
   clear A50
   replace H := Option.bind_eq_some_iff.mp H
   obtain ⟨t107, A60, H⟩ := H
   (try dsimp only at H)
   have A6 := Aside0.mk A60
   clear A60
   replace H := Option.bind_eq_some_iff.mp H
   obtain ⟨t108, A70, H⟩ := H
   (try dsimp only at H)
   have A7 := Aside0.mk A70
   clear A70
   by_cases c8 : 0 ≤ x6_1
   rotate_left
   ·rw [if_neg c8] at H
    exact absurd H (by simp)
   rw [if_pos c8] at H
   have c8b0 : decide (0 ≤ x6_1) = true := decide_eq_true c8
   clear c8
   replace H := Option.bind_eq_some_iff.mp H
   obtain ⟨t113, A90, H⟩ := H
   (try dsimp only at H)
   have A9 := Aside0.mk A90
   clear A90
   by_cases c10 : 0 ≤ t113
   rotate_left
   ·rw [if_neg c10] at H
    exact absurd H (by simp)
   rw [if_pos c10] at H
   have c10b0 : decide (0 ≤ t113) = true := decide_eq_true c10
   clear c10
   by_cases c11 : t113 < (t108.length : Int)
   rotate_left
   ·rw [if_neg c11] at H
    exact absurd H (by simp)
   rw [if_pos c11] at H
   have c11b0 : decide (t113 < (t108.length : Int)) = true := decide_eq_true c11
   clear c11
   by_cases c12 : 0 < (l1.length : Int)
   rotate_left
   ·rw [if_neg c12] at H
    exact absurd H (by simp)
   rw [if_pos c12] at H
   have c12b0 : decide (0 < (l1.length : Int)) = true := decide_eq_true c12
   have c12b1 : decide (0 < l1.length) = true := decide_eq_true (by omega)
   clear c12
   have H' := Aside0.mk H
   clear H
   have p101 : 0 ≤ (0 : Int) := (by omega)
   have q101 : 0 < (l0.length : Int) := of_decide_eq_true (by assumption)
   obtain ⟨ad101, A101_2, c101_2, A101_3, c101_3, A101_4, c101_4, e101, hx101_0, hx101_1, hx101_2, hx101_3, hx101_4, hl101_2, hi101_2, hl101_3, hi101_3, hl101_4, hi101_4⟩ := at_T40 HR0.out 0 p101 q101
   cases e101
   have qi101 : (0 < l0.length) = True := eq_true (by omega)
   (try simp only [Int.toNat_zero, Nat.zero_mul, Addr.add_zero'] at hx101_0 hx101_1)
   (try simp only [Int.toNat_zero, Nat.zero_mul, Addr.add_zero'] at hx101_2 hx101_3 hx101_4)
   replace hx101_0 := bu_ HB.out hx101_0
   replace hx101_1 := bu_ HB.out hx101_1
   replace hx101_2 := bu_ HB.out hx101_2
   replace hx101_3 := bu_ HB.out hx101_3
   replace hx101_4 := bu_ HB.out hx101_4
   have HR101_2 := Aside0.mk hi101_2
   have HC101_2 := Aside0.mk hl101_2
   clear hi101_2 hl101_2
   have HR101_3 := Aside0.mk hi101_3
   have HC101_3 := Aside0.mk hl101_3
   clear hi101_3 hl101_3
   have HR101_4 := Aside0.mk hi101_4
   have HC101_4 := Aside0.mk hl101_4
   clear hi101_4 hl101_4
   replace p101 := eq_true p101
   replace q101 := eq_true q101
   try go_wp2
   have pi114 : (0 ≤ (t113 : Int)) = True := eq_true (of_decide_eq_true (by assumption))
   have qi114 : (t113 < (t108.length : Int)) = True := eq_true (of_decide_eq_true (by assumption))
   have n0_ := Aside0.mk (bD_ HB.out)
   clear HB
   have HB := n0_
   clear n0_
   have p103 : 0 ≤ (0 : Int) := (by omega)
   have q103 : 0 < (l0.length : Int) := of_decide_eq_true (by assumption)
   obtain ⟨ad103, A103_2, c103_2, A103_3, c103_3, A103_4, c103_4, e103, hx103_0, hx103_1, hx103_2, hx103_3, hx103_4, hl103_2, hi103_2, hl103_3, hi103_3, hl103_4, hi103_4⟩ := at_T40 HR0.out 0 p103 q103
   have hw103_4 := hx103_4
   (try simp only [Int.toNat_zero, Nat.zero_mul, Addr.add_zero'] at hw103_4)
   have hw103_3 := hx103_3
   (try simp only [Int.toNat_zero, Nat.zero_mul, Addr.add_zero'] at hw103_3)
   have hw103_2 := hx103_2
   (try simp only [Int.toNat_zero, Nat.zero_mul, Addr.add_zero'] at hw103_2)
   have hw103_1 := hx103_1
   (try simp only [Int.toNat_zero, Nat.zero_mul, Addr.add_zero'] at hw103_1)
   have hw103_0 := hx103_0
   (try simp only [Int.toNat_zero, Nat.zero_mul, Addr.add_zero'] at hw103_0)
   obtain rfl : ad101 = ad103 := (by injection e103)
   have qi103 : (0 < l0.length) = True := eq_true (by omega)
   (try simp only [Int.toNat_zero, Nat.zero_mul, Addr.add_zero'] at hx103_0 hx103_1)
   (try simp only [Int.toNat_zero, Nat.zero_mul, Addr.add_zero'] at hx103_2 hx103_3 hx103_4)
   replace hx103_0 := bu_ HB.out hx103_0
   replace hx103_1 := bu_ HB.out hx103_1
   replace hx103_2 := bu_ HB.out hx103_2
   replace hx103_3 := bu_ HB.out hx103_3
   replace hx103_4 := bu_ HB.out hx103_4
   have HR103_2 := Aside0.mk hi103_2
   have HC103_2 := Aside0.mk hl103_2
   clear hi103_2 hl103_2
   have HR103_3 := Aside0.mk hi103_3
   have HC103_3 := Aside0.mk hl103_3
   clear hi103_3 hl103_3
   have HR103_4 := Aside0.mk hi103_4
   have HC103_4 := Aside0.mk hl103_4
   clear hi103_4 hl103_4
   replace p103 := eq_true p103
   replace q103 := eq_true q103
   (try clear hx101_2)
   (try clear hx101_3)
   (try clear hx101_4)
   have p111 : 0 ≤ (0 : Int) := (by omega)
   have q111 : 0 < (l0.length : Int) := of_decide_eq_true (by assumption)
   obtain ⟨ad111, A111_2, c111_2, A111_3, c111_3, A111_4, c111_4, e111, hx111_0, hx111_1, hx111_2, hx111_3, hx111_4, hl111_2, hi111_2, hl111_3, hi111_3, hl111_4, hi111_4⟩ := at_T40 HR0.out 0 p111 q111
   have hw111_4 := hx111_4
   (try simp only [Int.toNat_zero, Nat.zero_mul, Addr.add_zero'] at hw111_4)
   have hw111_3 := hx111_3
   (try simp only [Int.toNat_zero, Nat.zero_mul, Addr.add_zero'] at hw111_3)
   have hw111_2 := hx111_2
   (try simp only [Int.toNat_zero, Nat.zero_mul, Addr.add_zero'] at hw111_2)
   have hw111_1 := hx111_1
   (try simp only [Int.toNat_zero, Nat.zero_mul, Addr.add_zero'] at hw111_1)
   have hw111_0 := hx111_0
   (try simp only [Int.toNat_zero, Nat.zero_mul, Addr.add_zero'] at hw111_0)
   obtain rfl : ad101 = ad111 := (by injection e111)
   have qi111 : (0 < l0.length) = True := eq_true (by omega)
   (try simp only [Int.toNat_zero, Nat.zero_mul, Addr.add_zero'] at hx111_0 hx111_1)
   (try simp only [Int.toNat_zero, Nat.zero_mul, Addr.add_zero'] at hx111_2 hx111_3 hx111_4)
   replace hx111_0 := bu_ HB.out hx111_0
   replace hx111_1 := bu_ HB.out hx111_1
   replace hx111_2 := bu_ HB.out hx111_2
   replace hx111_3 := bu_ HB.out hx111_3
   replace hx111_4 := bu_ HB.out hx111_4
   have HR111_2 := Aside0.mk hi111_2
   have HC111_2 := Aside0.mk hl111_2
   clear hi111_2 hl111_2
   have HR111_3 := Aside0.mk hi111_3
   have HC111_3 := Aside0.mk hl111_3
   clear hi111_3 hl111_3
   have HR111_4 := Aside0.mk hi111_4
   have HC111_4 := Aside0.mk hl111_4
   clear hi111_4 hl111_4
   replace p111 := eq_true p111
   replace q111 := eq_true q111
   have ea_ := Option.some.inj (hx103_2.symm.trans hx111_2)
   injection ea_ with ea_ en_ ec_
   (try subst ea_)
   (try subst ec_)
   (try clear ea_ ec_)
   clear en_
   have ea_ := Option.some.inj (hx103_3.symm.trans hx111_3)
   injection ea_ with ea_ en_ ec_
   (try subst ea_)
   (try subst ec_)
   (try clear ea_ ec_)
   clear en_
   have ea_ := Option.some.inj (hx103_4.symm.trans hx111_4)
   injection ea_ with ea_ en_ ec_
   (try subst ea_)
   (try subst ec_)
   (try clear ea_ ec_)
   clear en_
   have p112 : 0 ≤ (x6_1 : Int) := of_decide_eq_true (by assumption)
   have q112 : x6_1 < (((aT_ l0 0).f1).length : Int) := of_decide_eq_true (by assumption)
   obtain ⟨ad112, e112, hx112_0, hx112_1, hx112_2⟩ := at_T56 HR111_4.out x6_1 p112 q112
   have hw112_2 := hx112_2
   have hw112_1 := hx112_1
   have hw112_0 := hx112_0
   cases e112
   replace hx112_0 := bu_ HB.out hx112_0
   replace hx112_1 := bu_ HB.out hx112_1
   replace hx112_2 := bu_ HB.out hx112_2
   replace p112 := eq_true p112
   replace q112 := eq_true q112
   have p115 : 0 ≤ (0 : Int) := (by omega)
   have q115 : 0 < (l1.length : Int) := of_decide_eq_true (by assumption)
   obtain ⟨ad115, e115, hx115_0, hx115_1, hx115_2, hx115_3, hx115_4⟩ := dA_ HR1.out 0 p115 q115
   have hw115_4 := hx115_4
   (try simp only [Int.toNat_zero, Nat.zero_mul, Addr.add_zero'] at hw115_4)
   have hw115_3 := hx115_3
   (try simp only [Int.toNat_zero, Nat.zero_mul, Addr.add_zero'] at hw115_3)
   have hw115_2 := hx115_2
   (try simp only [Int.toNat_zero, Nat.zero_mul, Addr.add_zero'] at hw115_2)
   have hw115_1 := hx115_1
   (try simp only [Int.toNat_zero, Nat.zero_mul, Addr.add_zero'] at hw115_1)
   have hw115_0 := hx115_0
   (try simp only [Int.toNat_zero, Nat.zero_mul, Addr.add_zero'] at hw115_0)
   cases e115
   have qi115 : (0 < l1.length) = True := eq_true (by omega)
   (try simp only [Int.toNat_zero, Nat.zero_mul, Addr.add_zero'] at hx115_0 hx115_1)
   (try simp only [Int.toNat_zero, Nat.zero_mul, Addr.add_zero'] at hx115_2 hx115_3 hx115_4)
   replace hx115_0 := bu_ HB.out hx115_0
   replace hx115_1 := bu_ HB.out hx115_1
   replace hx115_2 := bu_ HB.out hx115_2
   replace hx115_3 := bu_ HB.out hx115_3
   replace hx115_4 := bu_ HB.out hx115_4
   replace p115 := eq_true p115
   replace q115 := eq_true q115
   refine cl_ (n := 28) (S := fun w' => w'.cell? ad101 = some (.int .i64 ((aT_ l0 0).f0.f0)) ∧ w'.cell? ⟨ad101.block, ad101.off + 1, none⟩ = some (.int .i64 ((aT_ l0 0).f0.f1)) ∧ w'.cell? ⟨ad101.block, ad101.off + 2, none⟩ = some (.slice A103_2 ((aT_ l0 0).f0.f2).length c103_2) ∧ w'.cell? ⟨ad101.block, ad101.off + 3, none⟩ = some (.slice A103_3 ((aT_ l0 0).f0.f3).length c103_3) ∧ w'.cell? ⟨ad101.block, ad101.off + 4, none⟩ = some (.slice (some ad112) ((aT_ l0 0).f1).length c103_4) ∧ w'.cell? ad101 = some (.int .i64 ((aT_ l0 0).f0.f0)) ∧ w'.cell? ⟨ad101.block, ad101.off + 1, none⟩ = some (.int .i64 ((aT_ l0 0).f0.f1)) ∧ w'.cell? ⟨ad101.block, ad101.off + 2, none⟩ = some (.slice A103_2 ((aT_ l0 0).f0.f2).length c103_2) ∧ w'.cell? ⟨ad101.block, ad101.off + 3, none⟩ = some (.slice A103_3 ((aT_ l0 0).f0.f3).length c103_3) ∧ w'.cell? ⟨ad101.block, ad101.off + 4, none⟩ = some (.slice (some ad112) ((aT_ l0 0).f1).length c103_4) ∧ w'.cell? (ad112.add ((x6_1).toNat * 3)) = some (.string ((aR_ ((aT_ l0 0).f1) x6_1).f0)) ∧ w'.cell? ⟨(ad112.add ((x6_1).toNat * 3)).block, (ad112.add ((x6_1).toNat * 3)).off + 1, none⟩ = some (.int .i64 ((aR_ ((aT_ l0 0).f1) x6_1).f1)) ∧ w'.cell? ⟨(ad112.add ((x6_1).toNat * 3)).block, (ad112.add ((x6_1).toNat * 3)).off + 2, none⟩ = some (.int .i64 ((aR_ ((aT_ l0 0).f1) x6_1).f2)) ∧ w'.cell? ad115 = some (.int .i64 ((bC_ l1 0).f0)) ∧ w'.cell? ⟨ad115.block, ad115.off + 1, none⟩ = some (.int .i64 ((bC_ l1 0).f1)) ∧ w'.cell? ⟨ad115.block, ad115.off + 2, none⟩ = some (.int .i64 ((bC_ l1 0).f2)) ∧ w'.cell? ⟨ad115.block, ad115.off + 3, none⟩ = some (.int .i64 ((bC_ l1 0).f3)) ∧ w'.cell? ⟨ad115.block, ad115.off + 4, none⟩ = some (.int .i64 ((bC_ l1 0).f4))) (ds := []) #[f_,f_,f_,f_,f_,f_,f_,f_,f_,f_,f_,f_,f_,f_,f_,f_,f_,f_,f_,f_,f_,f_,f_,f_,f_,f_,f_,f_] (by kernel_rfl) rfl rfl ⟨(bv_ HB.out hw103_0), (bv_ HB.out hw103_1), (bv_ HB.out hw103_2), (bv_ HB.out hw103_3), (bv_ HB.out hw103_4), (bv_ HB.out hw111_0), (bv_ HB.out hw111_1), (bv_ HB.out hw111_2), (bv_ HB.out hw111_3), (bv_ HB.out hw111_4), (bv_ HB.out hw112_0), (bv_ HB.out hw112_1), (bv_ HB.out hw112_2), (bv_ HB.out hw115_0), (bv_ HB.out hw115_1), (bv_ HB.out hw115_2), (bv_ HB.out hw115_3), (bv_ HB.out hw115_4)⟩ (fun hHeld => ?_); refine bo_ aP_.tab5 aP_.bits5 (fun HT_ HW_ => ?_)
   generalize wr.drew = w13 at HB HR103_2 HR103_3 HR103_4 HR111_2 HR111_3 HR111_4 hx103_0 hx103_1 hx103_2 hx103_3 hx103_4 hx111_0 hx111_1 hx111_2 hx111_3 hx111_4 hx112_0 hx112_1 hx112_2 hx115_0 hx115_1 hx115_2 hx115_3 hx115_4 hHeld ⊢
   refine pu 0 16 #[t_,f_,f_,f_,f_,f_,f_,f_,f_,f_,f_,f_,f_,f_,f_,f_,f_,f_,f_,f_,f_,f_,f_,f_,f_,f_,f_,f_] HT_ ?_
   refine pu 1 17 #[t_,t_,f_,f_,f_,f_,f_,f_,f_,f_,f_,f_,f_,f_,f_,f_,f_,f_,f_,f_,f_,f_,f_,f_,f_,f_,f_,f_] HT_ ?_
   refine pu 2 18 #[t_,t_,t_,f_,f_,f_,f_,f_,f_,f_,f_,f_,f_,f_,f_,f_,f_,f_,f_,f_,f_,f_,f_,f_,f_,f_,f_,f_] HT_ ?_
   refine pu 3 19 #[t_,t_,t_,t_,f_,f_,f_,f_,f_,f_,f_,f_,f_,f_,f_,f_,f_,f_,f_,f_,f_,f_,f_,f_,f_,f_,f_,f_] HT_ ?_
   refine pu 4 20 #[t_,t_,t_,t_,t_,f_,f_,f_,f_,f_,f_,f_,f_,f_,f_,f_,f_,f_,f_,f_,f_,f_,f_,f_,f_,f_,f_,f_] HT_ ?_
   refine pu 8 24 #[t_,t_,t_,t_,t_,f_,f_,f_,t_,f_,f_,f_,f_,f_,f_,f_,f_,f_,f_,f_,f_,f_,f_,f_,f_,f_,f_,f_] HT_ ?_
   refine pu 9 25 #[t_,t_,t_,t_,t_,f_,f_,f_,t_,t_,f_,f_,f_,f_,f_,f_,f_,f_,f_,f_,f_,f_,f_,f_,f_,f_,f_,f_] HT_ ?_
   refine pu 10 26 #[t_,t_,t_,t_,t_,f_,f_,f_,t_,t_,t_,f_,f_,f_,f_,f_,f_,f_,f_,f_,f_,f_,f_,f_,f_,f_,f_,f_] HT_ ?_
   refine pu 12 28 #[t_,t_,t_,t_,t_,f_,f_,f_,t_,t_,t_,f_,t_,f_,f_,f_,f_,f_,f_,f_,f_,f_,f_,f_,f_,f_,f_,f_] HT_ ?_
   refine pu 20 36 #[t_,t_,t_,t_,t_,f_,f_,f_,t_,t_,t_,f_,t_,f_,f_,f_,f_,f_,f_,f_,t_,f_,f_,f_,f_,f_,f_,f_] HT_ ?_
   refine pu 21 37 #[t_,t_,t_,t_,t_,f_,f_,f_,t_,t_,t_,f_,t_,f_,f_,f_,f_,f_,f_,f_,t_,t_,f_,f_,f_,f_,f_,f_] HT_ ?_
   refine pu 22 38 #[t_,t_,t_,t_,t_,f_,f_,f_,t_,t_,t_,f_,t_,f_,f_,f_,f_,f_,f_,f_,t_,t_,t_,f_,f_,f_,f_,f_] HT_ ?_
   refine tk 11 27 #[t_,t_,t_,t_,t_,f_,f_,f_,t_,t_,t_,t_,t_,f_,f_,f_,f_,f_,f_,f_,t_,t_,t_,f_,f_,f_,f_,f_] HT_ HW_ hHeld ?_ (hv := by rintro w' ⟨s0, s1, s2, s3, s4, s5, s6, s7, s8, s9, s10, s11, s12, s13, s14, s15, s16, s17⟩; go_simp; with_reducible rfl)
   refine pu 13 29 #[t_,t_,t_,t_,t_,f_,f_,f_,t_,t_,t_,t_,t_,t_,f_,f_,f_,f_,f_,f_,t_,t_,t_,f_,f_,f_,f_,f_] HT_ ?_
   refine pu 14 30 #[t_,t_,t_,t_,t_,f_,f_,f_,t_,t_,t_,t_,t_,t_,t_,f_,f_,f_,f_,f_,t_,t_,t_,f_,f_,f_,f_,f_] HT_ ?_
   refine tk 15 31 #[t_,t_,t_,t_,t_,f_,f_,f_,t_,t_,t_,t_,t_,t_,t_,t_,f_,f_,f_,f_,t_,t_,t_,f_,f_,f_,f_,f_] HT_ HW_ hHeld ?_ (hv := by rintro w' ⟨s0, s1, s2, s3, s4, s5, s6, s7, s8, s9, s10, s11, s12, s13, s14, s15, s16, s17⟩; go_simp; with_reducible rfl)
   refine tk 23 39 #[t_,t_,t_,t_,t_,f_,f_,f_,t_,t_,t_,t_,t_,t_,t_,t_,f_,f_,f_,f_,t_,t_,t_,t_,f_,f_,f_,f_] HT_ HW_ hHeld ?_ (hv := by rintro w' ⟨s0, s1, s2, s3, s4, s5, s6, s7, s8, s9, s10, s11, s12, s13, s14, s15, s16, s17⟩; go_simp; with_reducible rfl)
   refine pu 24 40 #[t_,t_,t_,t_,t_,f_,f_,f_,t_,t_,t_,t_,t_,t_,t_,t_,f_,f_,f_,f_,t_,t_,t_,t_,t_,f_,f_,f_] HT_ ?_
   refine one_ (i := 5) (N := some 21) #[t_,t_,t_,t_,t_,t_,f_,f_,t_,t_,t_,t_,t_,t_,t_,t_,f_,f_,f_,f_,t_,t_,t_,t_,t_,f_,f_,f_] rfl rfl (bh_ HT_.out (by kernel_rfl)) (by decide) (fun K hK => ?_)
   (first | refine goes_ Try.func30 (by kernel_rfl) rfl #[.pointer (some ((ad101.add ((0 : Int).toNat * 5)).add 0)), .int .i64 x6_1] (by rfl) rfl rfl (by first | rfl | (simp only [lma_, lmc_, lmn_]; first | done | rfl)) ?_ | refine RPW.by_ Try.func30 (by kernel_rfl) rfl #[.pointer (some ((ad101.add ((0 : Int).toNat * 5)).add 0)), .int .i64 x6_1] (by rfl) rfl rfl rfl (by first | rfl | (simp only [lma_, lmc_, lmn_]; first | done | rfl)) ?_ | refine RPW.bz_ Try.func30 (by kernel_rfl) rfl #[.pointer (some ((ad101.add ((0 : Int).toNat * 5)).add 0)), .int .i64 x6_1] (by rfl) rfl rfl rfl (by first | rfl | (simp only [lma_, lmc_, lmn_]; first | done | rfl)) ?_)
   with_reducible refine (cB_.calls k1 _ [(aT_ l0 0).f0] x6_1 t104 _ ?side1 A5.out).mono ?_
   (case side1 => exact (RPW.C_fst (RPW.C_iso (RPW.C_elem (ad := ad101) (n := l0.length) (xs := l0) z40 (i := 0) (by first | exact of_eq_true p103 | exact p103 | omega) (by first | exact of_eq_true q103 | exact q103 | omega) (by first | exact (Kd.aF_ HR0.out HB.out) | exact cz (Kd.aF_ HR0.out HB.out))))))
   rintro e w14 ⟨v105, rfl, ho0, hb⟩
   refine ⟨_, rfl, ?_⟩
   have n0_ := Aside0.mk (Kd.bq_ ho0 (ae_ (bz HB.out)))
   have n1_ := Aside0.mk (ad_ (bz HB.out) hb)
   clear HB
   have HO106 := n0_
   have HB := n1_
   clear n0_ n1_
   (try clear hb)
   (try clear ho0)
   obtain ⟨Ao15, co15, eo15⟩ := Kd.bR_ HO106.out
   (first | subst eo15 | (injection eo15 with f1_ f2_ f3_; have f4_ := f1_.symm; have f5_ := f3_.symm; clear f1_ f2_ f3_; subst f4_; subst f5_))
   refine hK.out _ _ ⟨(bv_ HB.out hw103_0), (bv_ HB.out hw103_1), (bv_ HB.out hw103_2), (bv_ HB.out hw103_3), (bv_ HB.out hw103_4), (bv_ HB.out hw111_0), (bv_ HB.out hw111_1), (bv_ HB.out hw111_2), (bv_ HB.out hw111_3), (bv_ HB.out hw111_4), (bv_ HB.out hw112_0), (bv_ HB.out hw112_1), (bv_ HB.out hw112_2), (bv_ HB.out hw115_0), (bv_ HB.out hw115_1), (bv_ HB.out hw115_2), (bv_ HB.out hw115_3), (bv_ HB.out hw115_4)⟩ (fun hHeld => ?_)
   clear hK K
   refine norm_ (a' := ?_) ?_ ?_
   rotate_left
   ·show Act.put _ (some 21) _ = _
    simp only [Act.put, lsa_, ls0_, ls1_, i64_w, i32_w]
    rfl
   refine one_ (i := 6) (N := some 22) #[t_,t_,t_,t_,t_,t_,t_,f_,t_,t_,t_,t_,t_,t_,t_,t_,f_,f_,f_,f_,t_,t_,t_,t_,t_,f_,f_,f_] rfl rfl (bh_ HT_.out (by kernel_rfl)) (by decide) (fun K hK => ?_)
   (first | refine goes_ Try.func29 (by kernel_rfl) rfl #[.slice Ao15 t104.length co15] (by rfl) rfl rfl (by first | rfl | (simp only [lma_, lmc_, lmn_]; first | done | rfl)) ?_ | refine RPW.by_ Try.func29 (by kernel_rfl) rfl #[.slice Ao15 t104.length co15] (by rfl) rfl rfl rfl (by first | rfl | (simp only [lma_, lmc_, lmn_]; first | done | rfl)) ?_ | refine RPW.bz_ Try.func29 (by kernel_rfl) rfl #[.slice Ao15 t104.length co15] (by rfl) rfl rfl rfl (by first | rfl | (simp only [lma_, lmc_, lmn_]; first | done | rfl)) ?_)
   with_reducible refine (bx_.calls k1 _ _ t104 t107 _ ?side1 ?side2 A6.out).mono ?_
   (case side1 => exact cz (Kd.aV_ HO106.out).2.2)
   (case side2 => exact (Kd.aV_ HO106.out).2.1)
   rintro e w16 ⟨rfl, hb⟩
   refine ⟨_, rfl, ?_⟩
   have n0_ := Aside0.mk (Kd.bM_ (rz HO106.out) hb)
   have n1_ := Aside0.mk (ad_ (bz HB.out) hb)
   clear HO106
   clear HB
   have HO106 := n0_
   have HB := n1_
   clear n0_ n1_
   (try clear hb)
   refine hK.out _ _ ⟨(bv_ HB.out hw103_0), (bv_ HB.out hw103_1), (bv_ HB.out hw103_2), (bv_ HB.out hw103_3), (bv_ HB.out hw103_4), (bv_ HB.out hw111_0), (bv_ HB.out hw111_1), (bv_ HB.out hw111_2), (bv_ HB.out hw111_3), (bv_ HB.out hw111_4), (bv_ HB.out hw112_0), (bv_ HB.out hw112_1), (bv_ HB.out hw112_2), (bv_ HB.out hw115_0), (bv_ HB.out hw115_1), (bv_ HB.out hw115_2), (bv_ HB.out hw115_3), (bv_ HB.out hw115_4)⟩ (fun hHeld => ?_)
   clear hK K
   refine norm_ (a' := ?_) ?_ ?_
   rotate_left
   ·show Act.put _ (some 22) _ = _
    simp only [Act.put, lsa_, ls0_, ls1_, i64_w, i32_w]
    rfl
   refine one_ (i := 7) (N := some 23) #[t_,t_,t_,t_,t_,t_,t_,t_,t_,t_,t_,t_,t_,t_,t_,t_,f_,f_,f_,f_,t_,t_,t_,t_,t_,f_,f_,f_] rfl rfl (bh_ HT_.out (by kernel_rfl)) (by decide) (fun K hK => ?_)
   (first | refine goes_ Try.func31 (by kernel_rfl) rfl #[] (by rfl) rfl rfl (by first | rfl | (simp only [lma_, lmc_, lmn_]; first | done | rfl)) ?_ | refine RPW.by_ Try.func31 (by kernel_rfl) rfl #[] (by rfl) rfl rfl rfl (by first | rfl | (simp only [lma_, lmc_, lmn_]; first | done | rfl)) ?_ | refine RPW.bz_ Try.func31 (by kernel_rfl) rfl #[] (by rfl) rfl rfl rfl (by first | rfl | (simp only [lma_, lmc_, lmn_]; first | done | rfl)) ?_)
   with_reducible refine (cZ_.calls  t108 _ A7.out).mono ?_
   rintro e w17 ⟨v109, rfl, ho0, hb⟩
   refine ⟨_, rfl, ?_⟩
   have n0_ := Aside0.mk (Kd.bM_ (rz HO106.out) hb)
   have n1_ := Aside0.mk (Kd.bq_ ho0 (ae_ (bz HB.out)))
   have n2_ := Aside0.mk (ad_ (bz HB.out) hb)
   clear HO106
   clear HB
   have HO106 := n0_
   have HO110 := n1_
   have HB := n2_
   clear n0_ n1_ n2_
   (try clear hb)
   (try clear ho0)
   refine hK.out _ _ ⟨(bv_ HB.out hw103_0), (bv_ HB.out hw103_1), (bv_ HB.out hw103_2), (bv_ HB.out hw103_3), (bv_ HB.out hw103_4), (bv_ HB.out hw111_0), (bv_ HB.out hw111_1), (bv_ HB.out hw111_2), (bv_ HB.out hw111_3), (bv_ HB.out hw111_4), (bv_ HB.out hw112_0), (bv_ HB.out hw112_1), (bv_ HB.out hw112_2), (bv_ HB.out hw115_0), (bv_ HB.out hw115_1), (bv_ HB.out hw115_2), (bv_ HB.out hw115_3), (bv_ HB.out hw115_4)⟩ (fun hHeld => ?_)
   clear hK K
   refine norm_ (a' := ?_) ?_ ?_
   rotate_left
   ·show Act.put _ (some 23) _ = _
    simp only [Act.put, lsa_, ls0_, ls1_, i64_w, i32_w]
    rfl
   refine one_ (i := 16) (N := some 32) #[t_,t_,t_,t_,t_,t_,t_,t_,t_,t_,t_,t_,t_,t_,t_,t_,t_,f_,f_,f_,t_,t_,t_,t_,t_,f_,f_,f_] rfl rfl (bh_ HT_.out (by kernel_rfl)) (by decide) (fun K hK => ?_)
   (first | refine goes_ Try.func32 (by kernel_rfl) rfl #[.string ((aR_ ((aT_ l0 0).f1) x6_1).f0)] (by rfl) rfl rfl (by first | rfl | (simp only [lma_, lmc_, lmn_]; first | done | rfl)) ?_ | refine RPW.by_ Try.func32 (by kernel_rfl) rfl #[.string ((aR_ ((aT_ l0 0).f1) x6_1).f0)] (by rfl) rfl rfl rfl (by first | rfl | (simp only [lma_, lmc_, lmn_]; first | done | rfl)) ?_ | refine RPW.bz_ Try.func32 (by kernel_rfl) rfl #[.string ((aR_ ((aT_ l0 0).f1) x6_1).f0)] (by rfl) rfl rfl rfl (by first | rfl | (simp only [lma_, lmc_, lmn_]; first | done | rfl)) ?_)
   with_reducible refine (bB_.calls k1 ((aR_ ((aT_ l0 0).f1) x6_1).f0) t113 _ A9.out).mono ?_
   rintro e w18 ⟨rfl, hb⟩
   refine ⟨_, rfl, ?_⟩
   have n0_ := Aside0.mk (Kd.bM_ (rz HO106.out) hb)
   have n1_ := Aside0.mk (Kd.bM_ (rz HO110.out) hb)
   have n2_ := Aside0.mk (ad_ (bz HB.out) hb)
   clear HO106
   clear HO110
   clear HB
   have HO106 := n0_
   have HO110 := n1_
   have HB := n2_
   clear n0_ n1_ n2_
   (try clear hb)
   obtain ⟨Ao19, co19, eo19⟩ := Kd.bR_ HO110.out
   (first | subst eo19 | (injection eo19 with f1_ f2_ f3_; have f4_ := f1_.symm; have f5_ := f3_.symm; clear f1_ f2_ f3_; subst f4_; subst f5_))
   have p114 : 0 ≤ (t113 : Int) := of_decide_eq_true (by assumption)
   have q114 : t113 < (t108.length : Int) := of_decide_eq_true (by assumption)
   obtain ⟨ad114, e114, hx114_0⟩ := Kd.at_int (Kd.aV_ HO110.out).2.2 t113 p114 q114
   cases e114
   replace p114 := eq_true p114
   replace q114 := eq_true q114
   refine hK.out _ _ ⟨(bv_ HB.out hw103_0), (bv_ HB.out hw103_1), (bv_ HB.out hw103_2), (bv_ HB.out hw103_3), (bv_ HB.out hw103_4), (bv_ HB.out hw111_0), (bv_ HB.out hw111_1), (bv_ HB.out hw111_2), (bv_ HB.out hw111_3), (bv_ HB.out hw111_4), (bv_ HB.out hw112_0), (bv_ HB.out hw112_1), (bv_ HB.out hw112_2), (bv_ HB.out hw115_0), (bv_ HB.out hw115_1), (bv_ HB.out hw115_2), (bv_ HB.out hw115_3), (bv_ HB.out hw115_4)⟩ (fun hHeld => ?_)
   clear hK K
   refine norm_ (a' := ?_) ?_ ?_
   rotate_left
   ·show Act.put _ (some 32) _ = _
    simp only [Act.put, lsa_, ls0_, ls1_, i64_w, i32_w]
    rfl
   refine pu 17 33 #[t_,t_,t_,t_,t_,t_,t_,t_,t_,t_,t_,t_,t_,t_,t_,t_,t_,t_,f_,f_,t_,t_,t_,t_,t_,f_,f_,f_] HT_ ?_
   refine one_ (i := 18) (N := some 34) #[t_,t_,t_,t_,t_,t_,t_,t_,t_,t_,t_,t_,t_,t_,t_,t_,t_,t_,t_,f_,t_,t_,t_,t_,t_,f_,f_,f_] rfl rfl (bh_ HT_.out (by kernel_rfl)) (by decide) (fun K hK => ?_)
   skip
   refine value_ (w1 := ?_) (v := ?_) (by rfl) rfl ?_ ?_
   rotate_left 2
   ·go_simp
    constructor
    ·rfl
    ·rfl
   clear hx114_0
   refine hK.out _ _ ⟨(bv_ HB.out hw103_0), (bv_ HB.out hw103_1), (bv_ HB.out hw103_2), (bv_ HB.out hw103_3), (bv_ HB.out hw103_4), (bv_ HB.out hw111_0), (bv_ HB.out hw111_1), (bv_ HB.out hw111_2), (bv_ HB.out hw111_3), (bv_ HB.out hw111_4), (bv_ HB.out hw112_0), (bv_ HB.out hw112_1), (bv_ HB.out hw112_2), (bv_ HB.out hw115_0), (bv_ HB.out hw115_1), (bv_ HB.out hw115_2), (bv_ HB.out hw115_3), (bv_ HB.out hw115_4)⟩ (fun hHeld => ?_)
   clear hK K
   refine norm_ (a' := ?_) ?_ ?_
   rotate_left
   ·show Act.put _ (some 34) _ = _
    simp only [Act.put, lsa_, ls0_, ls1_, i64_w, i32_w]
    rfl
   refine pu 19 35 #[t_,t_,t_,t_,t_,t_,t_,t_,t_,t_,t_,t_,t_,t_,t_,t_,t_,t_,t_,t_,t_,t_,t_,t_,t_,f_,f_,f_] HT_ ?_
   refine pu 25 41 #[t_,t_,t_,t_,t_,t_,t_,t_,t_,t_,t_,t_,t_,t_,t_,t_,t_,t_,t_,t_,t_,t_,t_,t_,t_,t_,f_,f_] HT_ ?_
   refine pu 26 42 #[t_,t_,t_,t_,t_,t_,t_,t_,t_,t_,t_,t_,t_,t_,t_,t_,t_,t_,t_,t_,t_,t_,t_,t_,t_,t_,t_,f_] HT_ ?_
   refine pu 27 5 #[t_,t_,t_,t_,t_,t_,t_,t_,t_,t_,t_,t_,t_,t_,t_,t_,t_,t_,t_,t_,t_,t_,t_,t_,t_,t_,t_,t_] HT_ ?_
   refine done_ (bS_ HT_.out (by kernel_rfl)) ?_
   try go_wp2
   go_roundg k1
   case measure => have := HK1.out; omega
   case rel => exact ⟨(wrap64 (x5_1 + (wrap64 ((wrap64 (t107 * (rd t108 t113))) * (wrap64 (100 + ((bC_ l1 0).f3))))))), (wrap64 (x6_1 + 1)), (by first | rfl | (simp; done) | (simp [*]; done)), (by first | rfl | (simp; done) | (simp [*]; done)), H', ⟨by have := HK1.out; omega⟩, ⟨bz HB.out⟩⟩
def cn_.f (k : Nat) (a0_0 : Int) (a0_1 : Int) (l0_2 : List (S81)) (l0_3 : List (S85)) (l0_4 : List (S56)) (a1_0 : Int) (a1_1 : Int) (a1_2 : Int) (a1_3 : Int) (a1_4 : Int) : Option (Int × Int) := (df_.f k [(⟨(⟨a0_0, a0_1, l0_2, l0_3⟩ : S37), l0_4⟩ : S40)] [(⟨a1_0, a1_1, a1_2, a1_3, a1_4⟩ : S42)]).bind fun t103 => (if t103 = 0 then ((aP_.f k [(⟨(⟨a0_0, a0_1, l0_2, l0_3⟩ : S37), l0_4⟩ : S40)] [(⟨a1_0, a1_1, a1_2, a1_3, a1_4⟩ : S42)]).bind fun t104 => (some (t104, 0))) else (some (0, t103)))
set_option maxHeartbeats 8000000 in
set_option maxRecDepth 100000 in
theorem cn_.calls (k : Nat) (a0_0 : Int) (a0_1 : Int) (A0_2 : Option Addr) (c0_2 : Nat) (l0_2 : List (S81)) (A0_3 : Option Addr) (c0_3 : Nat) (l0_3 : List (S85)) (A0_4 : Option Addr) (c0_4 : Nat) (l0_4 : List (S56)) (a1_0 : Int) (a1_1 : Int) (a1_2 : Int) (a1_3 : Int) (a1_4 : Int) (r1 : Int) (r2 : Int) (w : World) (hr0_2 : Kd.C k81 w A0_2 l0_2.length l0_2) (hc0_2 : l0_2.length ≤ c0_2) (hr0_3 : Kd.C k85 w A0_3 l0_3.length l0_3) (hc0_3 : l0_3.length ≤ c0_3) (hr0_4 : Kd.C k56 w A0_4 l0_4.length l0_4) (hc0_4 : l0_4.length ≤ c0_4) (h : cn_.f k a0_0 a0_1 l0_2 l0_3 l0_4 a1_0 a1_1 a1_2 a1_3 a1_4 = some (r1, r2)) :
  Calls Try.prog 5 #[.agg #[.int .i64 a0_0, .int .i64 a0_1, .slice A0_2 l0_2.length c0_2, .slice A0_3 l0_3.length c0_3, .slice A0_4 l0_4.length c0_4], .agg #[.int .i64 a1_0, .int .i64 a1_1, .int .i64 a1_2, .int .i64 a1_3, .int .i64 a1_4]] w fun e w' => e = .returned (.tuple #[.int .i64 r1, .int .i64 r2]) ∧ Below w.heap.size w w' := by
 have hu40 := Try.underlying40
 have hu42 := Try.underlying42
 have HR0_2 := Aside0.mk hr0_2
 have HC0_2 := Aside0.mk hc0_2
 clear hr0_2 hc0_2
 have HR0_3 := Aside0.mk hr0_3
 have HC0_3 := Aside0.mk hc0_3
 clear hr0_3 hc0_3
 have HR0_4 := Aside0.mk hr0_4
 have HC0_4 := Aside0.mk hc0_4
 clear hr0_4 hc0_4
 have HB := Aside0.mk (Below.refl w.heap.size w)
 have H : ((df_.f k [(⟨(⟨a0_0, a0_1, l0_2, l0_3⟩ : S37), l0_4⟩ : S40)] [(⟨a1_0, a1_1, a1_2, a1_3, a1_4⟩ : S42)]).bind fun t103 => (if t103 = 0 then ((aP_.f k [(⟨(⟨a0_0, a0_1, l0_2, l0_3⟩ : S37), l0_4⟩ : S40)] [(⟨a1_0, a1_1, a1_2, a1_3, a1_4⟩ : S42)]).bind fun t104 => (some (t104, 0))) else (some (0, t103)))) = some (r1, r2) := h
 clear h
 replace H := Option.bind_eq_some_iff.mp H
 obtain ⟨t103, A30, H⟩ := H
 (try dsimp only at H)
 have A3 := Aside0.mk A30
 clear A30
 have HC4 := Aside0.mk H
 clear H
 go_enter Try.func5, Try.ntmps5
 go_upto_if 9 with (first | ((with_reducible refine al_ (N := 2) rfl ?_); refine ak_ ?hg (N := 2) ?hd (cs := #[.int .i64 a0_0, .int .i64 a0_1, .slice A0_2 l0_2.length c0_2, .slice A0_3 l0_3.length c0_3, .slice A0_4 l0_4.length c0_4]) (t := 40) ?hr ?_; (case hd => rfl); (case hg => rfl); (case hr => (go_simp; try rfl)); intro gb101 hg w5 hbox hb; have BK101 := Aside0.mk (hbox); have GW101 := Aside0.mk ((by rw [hg]; exact (ae_ (bz HB.out)) : w.heap.size ≤ gb101)); have GE101 := GW101; replace HB := Aside0.mk (ad_ (bz HB.out) hb); clear hb hbox hg) | ((with_reducible refine al_ (N := 3) rfl ?_); refine ak_ ?hg (N := 3) ?hd (cs := #[.int .i64 a1_0, .int .i64 a1_1, .int .i64 a1_2, .int .i64 a1_3, .int .i64 a1_4]) (t := 42) ?hr ?_; (case hd => rfl); (case hg => rfl); (case hr => (go_simp; try rfl)); intro gb102 hg w6 hbox hb; have BK102 := Aside0.mk (hbox); have GW102 := Aside0.mk ((by rw [hg]; exact (ae_ (bq)) : w.heap.size ≤ gb102)); have GE102 := GW102; replace HB := Aside0.mk (ad_ (bq) hb); have NB101_102 := Aside0.mk ((by rw [hg]; exact Nat.ne_of_lt (aj_ (kz BK101.out)) : gb101 ≠ gb102)); have NB102_101 := Aside0.mk ((by rw [hg]; exact Nat.ne_of_gt (aj_ (kz BK101.out)) : gb102 ≠ gb101)); replace BK101 := Aside0.mk (aa_ (kz BK101.out) hb); clear hb hbox hg) | ((with_reducible refine an_ (f := 12) rfl ?_); refine aU_ (some 7) rfl rfl Try.func12 (by kernel_rfl) rfl #[.pointer (some (Addr.add ⟨gb101, 0, none⟩ 0)), .pointer (some (Addr.add ⟨gb102, 0, none⟩ 0))] rfl (by first | rfl | (simp only [lma_, lmc_, lmn_]; first | done | rfl)) ?_; (with_reducible refine (df_.calls k _ [(⟨(⟨a0_0, a0_1, l0_2, l0_3⟩ : S37), l0_4⟩ : S40)] _ [(⟨a1_0, a1_1, a1_2, a1_3, a1_4⟩ : S42)] t103 _ ?side1 ?side2 A3.out).mono ?_); (case side1 => exact (RPW.C_blk (cs := [.int .i64 a0_0, .int .i64 a0_1, .slice A0_2 l0_2.length c0_2, .slice A0_3 l0_3.length c0_3, .slice A0_4 l0_4.length c0_4]) (t := 40) (g := gb101) (kz BK101.out) (k40_mk _ (⟨(⟨a0_0, a0_1, l0_2, l0_3⟩ : S37), l0_4⟩ : S40) (by exact HC0_2.out) (by first | exact (Kd.aF_ HR0_2.out HB.out) | exact cz (Kd.aF_ HR0_2.out HB.out)) (by exact HC0_3.out) (by first | exact (Kd.aF_ HR0_3.out HB.out) | exact cz (Kd.aF_ HR0_3.out HB.out)) (by exact HC0_4.out) (by first | exact (Kd.aF_ HR0_4.out HB.out) | exact cz (Kd.aF_ HR0_4.out HB.out))))); (case side2 => exact (RPW.C_blk (cs := [.int .i64 a1_0, .int .i64 a1_1, .int .i64 a1_2, .int .i64 a1_3, .int .i64 a1_4]) (t := 42) (g := gb102) (kz BK102.out) (k42_mk _ (⟨a1_0, a1_1, a1_2, a1_3, a1_4⟩ : S42)))); rintro e w7 ⟨rfl, hb⟩; refine ⟨_, rfl, ?_⟩; replace BK101 := Aside0.mk (aa_ (kz BK101.out) hb); replace BK102 := Aside0.mk (aa_ (kz BK102.out) hb); replace HB := Aside0.mk (ad_ (bq) hb); (try clear hb)))
 (try simp only [Act.put, lsa_, ls0_, ls1_])
 have H := HC4.out
 clear HC4
 by_cases c8 : t103 = 0
 rotate_left
 ·rw [if_neg c8] at H
  have c8b0 : (t103 == 0) = false := beq_eq_false_iff_ne.mpr c8
  have c8b1 : (t103 != 0) = true := bne_iff_ne.mpr c8
  (first | rw [c8b0] | (simp only [i64_w, i32_w]; rw [c8b0]) | (simp only [c8b1, Bool.not_true, Bool.not_false]) | (simp only [c8b0, Bool.not_true, Bool.not_false]) | skip)
  simp only [Option.some.injEq, Prod.mk.injEq] at H
  obtain ⟨rfl, rfl⟩ := H
  go_wp2
  go_ret2
  exact ⟨by first | rfl | (simp [*, ah_, ai_] <;> rfl), bq⟩
 rw [if_pos c8] at H
 have c8b0 : (t103 == 0) = true := beq_iff_eq.mpr c8
 have c8b1 : (t103 != 0) = false := bne_eq_false_iff_eq.mpr c8
 clear c8
 (first | rw [c8b0] | (simp only [i64_w, i32_w]; rw [c8b0]) | (simp only [c8b1, Bool.not_true, Bool.not_false]) | (simp only [c8b0, Bool.not_true, Bool.not_false]) | skip)
 replace H := Option.bind_eq_some_iff.mp H
 obtain ⟨t104, A90, H⟩ := H
 (try dsimp only at H)
 have A9 := Aside0.mk A90
 clear A90
 simp only [Option.some.injEq, Prod.mk.injEq] at H
 obtain ⟨rfl, rfl⟩ := H
 go_wp2_with (first | ((with_reducible refine an_ (f := 13) rfl ?_); refine aU_ (some 11) rfl rfl Try.func13 (by kernel_rfl) rfl #[.pointer (some (Addr.add ⟨gb101, 0, none⟩ 0)), .pointer (some (Addr.add ⟨gb102, 0, none⟩ 0))] rfl (by first | rfl | (simp only [lma_, lmc_, lmn_]; first | done | rfl)) ?_; (with_reducible refine (aP_.calls k _ [(⟨(⟨a0_0, a0_1, l0_2, l0_3⟩ : S37), l0_4⟩ : S40)] _ [(⟨a1_0, a1_1, a1_2, a1_3, a1_4⟩ : S42)] t104 _ ?side1 ?side2 A9.out).mono ?_); (case side1 => exact (RPW.C_blk (cs := [.int .i64 a0_0, .int .i64 a0_1, .slice A0_2 l0_2.length c0_2, .slice A0_3 l0_3.length c0_3, .slice A0_4 l0_4.length c0_4]) (t := 40) (g := gb101) (kz BK101.out) (k40_mk _ (⟨(⟨a0_0, a0_1, l0_2, l0_3⟩ : S37), l0_4⟩ : S40) (by exact HC0_2.out) (by repeat (first | exact (Kd.aF_ HR0_2.out (bq)) | (with_reducible first | refine Kd.cL_ ?_ _ | refine Kd.cJ_ ?_ _ | refine Kd.dx_ ?_))) (by exact HC0_3.out) (by repeat (first | exact (Kd.aF_ HR0_3.out (bq)) | (with_reducible first | refine Kd.cL_ ?_ _ | refine Kd.cJ_ ?_ _ | refine Kd.dx_ ?_))) (by exact HC0_4.out) (by repeat (first | exact (Kd.aF_ HR0_4.out (bq)) | (with_reducible first | refine Kd.cL_ ?_ _ | refine Kd.cJ_ ?_ _ | refine Kd.dx_ ?_)))))); (case side2 => exact (RPW.C_blk (cs := [.int .i64 a1_0, .int .i64 a1_1, .int .i64 a1_2, .int .i64 a1_3, .int .i64 a1_4]) (t := 42) (g := gb102) (kz BK102.out) (k42_mk _ (⟨a1_0, a1_1, a1_2, a1_3, a1_4⟩ : S42)))); rintro e w10 ⟨rfl, hb⟩; refine ⟨_, rfl, ?_⟩; replace BK101 := Aside0.mk (aa_ (kz BK101.out) hb); replace BK102 := Aside0.mk (aa_ (kz BK102.out) hb); replace HB := Aside0.mk (ad_ (bq) hb); (try clear hb)))
 go_ret2
 exact ⟨by first | rfl | (simp [*, ah_, ai_] <;> rfl), bq⟩
def dg_.f (a0_0 : Int) (a0_1 : Int) : Option (Int × Int) := some (a0_0, a0_1)
set_option maxHeartbeats 8000000 in
set_option maxRecDepth 100000 in
theorem dg_.calls (a0_0 : Int) (a0_1 : Int) (r1 : Int) (r2 : Int) (w : World) (h : dg_.f a0_0 a0_1 = some (r1, r2)) :
  Calls Try.prog 50 #[.agg #[.int .i64 a0_0, .int .i64 a0_1]] w fun e w' => e = .returned (.agg #[.int .i64 r1, .int .i64 r2]) ∧ Below w.heap.size w w' := by
 have hu96 := Try.underlying96
 have hu81 := Try.underlying81
 have HB := Aside0.mk (Below.refl w.heap.size w)
 have H : (some (a0_0, a0_1)) = some (r1, r2) := h
 clear h
 simp only [Option.some.injEq, Prod.mk.injEq] at H
 obtain ⟨rfl, rfl⟩ := H
 go_enter Try.func50, Try.ntmps50
 go_wp2_with (first | ((with_reducible refine al_ (N := 1) rfl ?_); refine ak_ ?hg (N := 1) ?hd (cs := #[.int .i64 a0_0, .int .i64 a0_1]) (t := 96) ?hr ?_; (case hd => rfl); (case hg => rfl); (case hr => (go_simp; try rfl)); intro gb101 hg w2 hbox hb; have BK101 := Aside0.mk (hbox); have GW101 := Aside0.mk ((by rw [hg]; exact (ae_ (bz HB.out)) : w.heap.size ≤ gb101)); have GE101 := GW101; replace HB := Aside0.mk (ad_ (bz HB.out) hb); clear hb hbox hg) | ((with_reducible refine al_ (N := 2) rfl ?_); refine ak_ ?hg (N := 2) ?hd (cs := #[.int .i64 0, .int .i64 0]) (t := 81) ?hr ?_; (case hd => rfl); (case hg => rfl); (case hr => (go_simp; try rfl)); intro gb102 hg w3 hbox hb; have BK102 := Aside0.mk (hbox); have GW102 := Aside0.mk ((by rw [hg]; exact (ae_ (bq)) : w.heap.size ≤ gb102)); have GE102 := GW102; replace HB := Aside0.mk (ad_ (bq) hb); have NB101_102 := Aside0.mk ((by rw [hg]; exact Nat.ne_of_lt (aj_ (kz BK101.out)) : gb101 ≠ gb102)); have NB102_101 := Aside0.mk ((by rw [hg]; exact Nat.ne_of_gt (aj_ (kz BK101.out)) : gb102 ≠ gb101)); replace BK101 := Aside0.mk (aa_ (kz BK101.out) hb); clear hb hbox hg) | ((with_reducible refine al_ (N := 3) rfl ?_); refine ak_ ?hg (N := 3) ?hd (cs := #[.int .i64 0, .int .i64 0]) (t := 81) ?hr ?_; (case hd => rfl); (case hg => rfl); (case hr => (go_simp; try rfl)); intro gb103 hg w4 hbox hb; have BK103 := Aside0.mk (hbox); have GW103 := Aside0.mk ((by rw [hg]; exact (ae_ (bq)) : w.heap.size ≤ gb103)); have GE103 := GW103; replace HB := Aside0.mk (ad_ (bq) hb); have NB101_103 := Aside0.mk ((by rw [hg]; exact Nat.ne_of_lt (aj_ (kz BK101.out)) : gb101 ≠ gb103)); have NB103_101 := Aside0.mk ((by rw [hg]; exact Nat.ne_of_gt (aj_ (kz BK101.out)) : gb103 ≠ gb101)); replace BK101 := Aside0.mk (aa_ (kz BK101.out) hb); have NB102_103 := Aside0.mk ((by rw [hg]; exact Nat.ne_of_lt (aj_ (kz BK102.out)) : gb102 ≠ gb103)); have NB103_102 := Aside0.mk ((by rw [hg]; exact Nat.ne_of_gt (aj_ (kz BK102.out)) : gb103 ≠ gb102)); replace BK102 := Aside0.mk (aa_ (kz BK102.out) hb); clear hb hbox hg; have hnb5 := NB101_102.out; have hnc5 := NB102_101.out; have hnb6 := NB101_103.out; have hnc6 := NB103_101.out; obtain ⟨hcz7_0, hcz7_1⟩ := cz2_ BK101.out; obtain ⟨hfz7_0, hfz7_1⟩ := fz2_ BK101.out; have hnb8 := NB103_102.out; have hnc8 := NB102_103.out; obtain ⟨hcz9_0, hcz9_1⟩ := cz2_ BK103.out; obtain ⟨hfz9_0, hfz9_1⟩ := fz2_ BK103.out; obtain ⟨hcz10_0, hcz10_1⟩ := cz2_ BK102.out; obtain ⟨hfz10_0, hfz10_1⟩ := fz2_ BK102.out))
 refine bodyPost_ret (results_cell_row rfl _ _ gb102 81 #[.int .i64 a0_0, .int .i64 a0_1] (0, 0) _ rfl (by exact kj2_1 (kj2_0 (kf (kf (kz BK102.out) NB102_103.out) NB102_103.out))) Try.underlying81 rfl (by kernel_rfl)) rfl ?_
 exact ⟨by first | rfl | (simp [*, ah_, ai_] <;> rfl), bq⟩
def bm_.l0 : Nat → List (S96) → List (S81) → Int → Option ((List (S81)))
 | 0, _, _, _ => none
 | k + 1, x0, x3, x4 => if x4 < (x0.length : Int) then (if 0 ≤ x4 then ((dg_.f ((rd_T96 x0 x4).f0) ((rd_T96 x0 x4).f1)).bind fun bt105 => (if x4 < (x3.length : Int) then (bm_.l0 k x0 (x3.set (x4 : Int).toNat (⟨bt105.1, bt105.2⟩ : S81)) (wrap64 (x4 + 1))) else (none))) else (none)) else (some x3)
def bm_.f (k : Nat) (l0 : List (S96)) : Option ((List (S81))) := if 0 ≤ (l0.length : Int) then (if ((l0.length : Int) : Int).toNat ≤ 17592186044416 then (bm_.l0 k l0 (List.replicate ((l0.length : Int) : Int).toNat z81) 0) else (none)) else (none)
set_option maxHeartbeats 8000000 in
set_option maxRecDepth 100000 in
theorem bm_.calls (k : Nat) (A0 : Option Addr) (c0 : Nat) (l0 : List (S96)) (r : List (S81)) (w : World) (hr0 : Kd.C k96 w A0 l0.length l0) (hc0 : l0.length ≤ c0) (h : bm_.f k l0 = some r) :
  Calls Try.prog 34 #[.slice A0 l0.length c0] w fun e w' => ∃ v0_ : Value, e = .returned (v0_) ∧ Kd.R k81 81 w' w.heap.size (fun _ => True) v0_ r ∧ Below w.heap.size w w' := by
 have hu96 := Try.underlying96
 have hu81 := Try.underlying81
 have HR0 := Aside0.mk hr0
 have HC0 := Aside0.mk hc0
 clear hr0 hc0
 have HB := Aside0.mk (Below.refl w.heap.size w)
 have H : (if 0 ≤ (l0.length : Int) then (if ((l0.length : Int) : Int).toNat ≤ 17592186044416 then (bm_.l0 k l0 (List.replicate ((l0.length : Int) : Int).toNat z81) 0) else (none)) else (none)) = some r := h
 clear h
 by_cases c2 : 0 ≤ (l0.length : Int)
 rotate_left
 ·rw [if_neg c2] at H
  exact absurd H (by simp)
 rw [if_pos c2] at H
 have c2b0 := eq_true c2
 have c2b1 : decide (0 ≤ (l0.length : Int)) = true := decide_eq_true c2
 clear c2
 by_cases c3 : ((l0.length : Int) : Int).toNat ≤ 17592186044416
 rotate_left
 ·rw [if_neg c3] at H
  exact absurd H (by simp)
 rw [if_pos c3] at H
 have c3b0 := eq_true c3
 have c3b1 : decide (((l0.length : Int) : Int).toNat ≤ 17592186044416) = true := decide_eq_true c3
 clear c3
 obtain ⟨y101, hy101⟩ : ∃ y_ : List (S81), y_ = (List.replicate ((l0.length : Int) : Int).toNat z81) := ⟨_, rfl⟩
 replace H : (bm_.l0 k l0 y101 0) = some r := by first | (rw [hy101]; with_reducible exact H) | (have H2_ := (Option.bind_some _ _).symm.trans H; rw [hy101]; with_reducible exact H2_) | (have H2_ := (Option.bind_some _ _).symm.trans H; with_reducible exact H2_) | with_reducible exact H | (rw [hy101]; exact H) | exact H
 have Ny101 := Aside0.mk hy101
 clear hy101
 have H' := Aside0.mk H
 clear H
 go_enter Try.func34, Try.ntmps34
 go_wp2_with (first | ((with_reducible refine al_ (N := 7) rfl ?_); refine Kd.R_make k81 _ 81 rfl (N := 7) rfl 34 _ _ rfl (l0.length : Int) rfl rfl Try.underlying34 (.agg #[(.int .i64 0), (.int .i64 0)]) 16 info81 rfl (by decide) (by omega) z81 (ok := fun _ => True) (okp := fun _ => True) (k81_mkM _ _ _ z81 ) (fun _ hk => hk) trivial (of_decide_eq_true (by assumption)) (Nat.le_trans (Nat.mul_le_mul_right _ (of_decide_eq_true (by assumption) : (l0.length : Int).toNat ≤ 17592186044416)) (by omega)) (Below.refl _ _) (Nat.le_refl _) ?_; intro v102 w4 ho5 hb hg_ hnew_; clear hg_ hnew_; (first | rw [← Ny101.out] at ho5 | (simp only [Int.reduceToNat] at ho5; rw [← Ny101.out] at ho5)); have HO103 := Aside0.mk (Kd.bq_ ho5 (ae_ (bz HB.out))); replace HB := Aside0.mk (ad_ (bz HB.out) hb); clear hb ho5))
 (try simp only [Act.put, lsa_, ls0_, ls1_])
 go_loopg [4] k (fun kq v4 w' => ∃ (x3_1 : List (S81)) (x4_1 : Int), v4 = .int .i64 x4_1 ∧ Aside0 (bm_.l0 kq l0 x3_1 x4_1 = some r) ∧ Aside0 (kq ≤ k) ∧ Aside0 (Kd.R k81 81 w' w.heap.size (fun _ => True) v102 x3_1) ∧ Aside0 (Below w.heap.size w w'))
 case atStart => exact ⟨(y101), (0), (by first | rfl | (simp; done) | (simp [*]; done)), H', ⟨Nat.le_refl _⟩, ⟨rz HO103.out⟩, ⟨bz HB.out⟩⟩
 case round =>
  clear H'
  obtain ⟨x3_1, x4_1, rfl, HA, HK1, HO_3, HB⟩ := hrel
  cases gk with
  | zero => exact absurd HA.out (by simp [bm_.l0])
  | succ k1 =>
   have H := HA.out
   clear HA
   simp only [bm_.l0] at H
   by_cases c6 : x4_1 < (l0.length : Int)
   rotate_left
   ·rw [if_neg c6] at H
    have c6b0 : decide (x4_1 < (l0.length : Int)) = false := decide_eq_false c6
    clear c6
    obtain rfl := Option.some.inj H
    go_wp2
    go_ret
    exact ⟨_, by first | rfl | (simp [*, ah_, ai_] <;> rfl), rz HO_3.out, bz HB.out⟩
   rw [if_pos c6] at H
   have c6b0 : decide (x4_1 < (l0.length : Int)) = true := decide_eq_true c6
   clear c6
   by_cases c7 : 0 ≤ x4_1
   rotate_left
   ·rw [if_neg c7] at H
    exact absurd H (by simp)
   rw [if_pos c7] at H
   have c7b0 : decide (0 ≤ x4_1) = true := decide_eq_true c7
   clear c7
   replace H := Option.bind_eq_some_iff.mp H
   obtain ⟨⟨t105, t106⟩, A80, H⟩ := H
   (try dsimp only at H)
   have A8 := Aside0.mk A80
   clear A80
   by_cases c9 : x4_1 < (x3_1.length : Int)
   rotate_left
   ·rw [if_neg c9] at H
    exact absurd H (by simp)
   rw [if_pos c9] at H
   have c9b0 : decide (x4_1 < (x3_1.length : Int)) = true := decide_eq_true c9
   clear c9
   obtain ⟨y107, hy107⟩ : ∃ y_ : List (S81), y_ = (x3_1.set (x4_1 : Int).toNat (⟨t105, t106⟩ : S81)) := ⟨_, rfl⟩
   replace H : (bm_.l0 k1 l0 y107 (wrap64 (x4_1 + 1))) = some r := by first | (rw [hy107]; with_reducible exact H) | (have H2_ := (Option.bind_some _ _).symm.trans H; rw [hy107]; with_reducible exact H2_) | (have H2_ := (Option.bind_some _ _).symm.trans H; with_reducible exact H2_) | with_reducible exact H | (rw [hy107]; exact H) | exact H
   have Ny107 := Aside0.mk hy107
   clear hy107
   have H' := Aside0.mk H
   clear H
   have p104 : 0 ≤ (x4_1 : Int) := of_decide_eq_true (by assumption)
   have q104 : x4_1 < (l0.length : Int) := of_decide_eq_true (by assumption)
   obtain ⟨ad104, e104, hx104_0, hx104_1⟩ := at_T96 HR0.out x4_1 p104 q104
   cases e104
   replace hx104_0 := bu_ HB.out hx104_0
   replace hx104_1 := bu_ HB.out hx104_1
   replace p104 := eq_true p104
   replace q104 := eq_true q104
   go_wp2_with (first | ((with_reducible refine an_ (f := 50) rfl ?_); refine aU_ (some 20) rfl rfl Try.func50 (by kernel_rfl) rfl #[.agg #[.int .i64 ((rd_T96 l0 x4_1).f0), .int .i64 ((rd_T96 l0 x4_1).f1)]] rfl (by first | rfl | (simp only [lma_, lmc_, lmn_]; first | done | rfl)) ?_; (with_reducible refine (dg_.calls ((rd_T96 l0 x4_1).f0) ((rd_T96 l0 x4_1).f1) t105 t106 _ A8.out).mono ?_); rintro e w11 ⟨rfl, hb⟩; refine ⟨_, rfl, ?_⟩; replace HO_3 := Aside0.mk (Kd.bM_ (rz HO_3.out) hb); replace HB := Aside0.mk (ad_ (bz HB.out) hb); (try clear hb); have p10 : 0 ≤ (x4_1 : Int) := of_decide_eq_true (by assumption); have q10 : (x4_1 : Int) < ((x3_1.length : Int) : Int) := of_decide_eq_true (by assumption); obtain ⟨go10, co10, eo10, gb10, gl10, cl10, HG10⟩ := Kd.R_form HO_3.out (by omega); (first | cases eo10 | (injection eo10 with ea_ en_ ec_; (first | subst ea_ | (injection ea_ with ea_; subst ea_)); subst ec_; clear en_)); have GB10 := Aside0.mk gb10; have GG10 := Aside0.mk HG10; clear gb10 gl10 HG10; obtain ⟨ce10, hcl10, hM10, hcc10, hfr10⟩ := Kd.R_elem HO_3.out z81 (x4_1 : Int) p10 q10; obtain rfl := k81_openM hM10; have hx10_0 : w11.cell? ⟨go10, (x4_1 : Int).toNat * 2, none⟩ = some (.int .i64 ((ab_ x3_1 x4_1).f0)) := hcc10 0 _ rfl; have hx10_1 : w11.cell? ⟨go10, (x4_1 : Int).toNat * 2 + 1, none⟩ = some (.int .i64 ((ab_ x3_1 x4_1).f1)) := hcc10 1 _ rfl; have hf10_0 : w11.frozen? ⟨go10, (x4_1 : Int).toNat * 2, none⟩ = false := hfr10 0; have hf10_1 : w11.frozen? ⟨go10, (x4_1 : Int).toNat * 2 + 1, none⟩ = false := hfr10 1; clear hcl10 hcc10 hfr10 hM10; replace p10 := eq_true p10; replace q10 := eq_true q10; have HX12 := Aside0.mk (show Kd.R k81 81 w11 w.heap.size (fun _ => True) (.slice (some ⟨go10, 0, none⟩) x3_1.length co10) x3_1 from (rz HO_3.out)); obtain ⟨ce12, hcl12, hM12, hcc12, hfr12⟩ := Kd.R_elem HX12.out z81 (x4_1 : Int) (of_decide_eq_true (by assumption)) (by have h_ : (x4_1 : Int) < ((x3_1.length : Int) : Int) := of_decide_eq_true (by assumption); first | exact h_ | (have e_ := (Kd.aV_ HO_3.out).1; omega) | simpa using h_); obtain rfl := k81_openM hM12; have HP12 := Kd.R_seg HX12.out (x4_1 : Int) (of_decide_eq_true (by assumption)) (by have h_ : (x4_1 : Int) < ((x3_1.length : Int) : Int) := of_decide_eq_true (by assumption); first | exact h_ | (have e_ := (Kd.aV_ HO_3.out).1; omega) | simpa using h_) (seg := [.int .i64 t105, .int .i64 t106]) (j := 0) hcl12 hcc12 (show 2 ≤ 2 from by decide) (x' := (⟨t105, t106⟩ : S81)) (k81_mkM _ _ _ (⟨t105, t106⟩ : S81) ) (fun _ hk => hk); have hx12_0 := hcc12 0 _ rfl; (try simp only [show (k81).sz = 2 from rfl, Nat.mul_one, Nat.add_zero] at hx12_0); have hf12_0 := hfr12 0; (try simp only [show (k81).sz = 2 from rfl, Nat.mul_one, Nat.add_zero] at hf12_0); have hx12_1 := hcc12 1 _ rfl; (try simp only [show (k81).sz = 2 from rfl, Nat.mul_one, Nat.add_zero] at hx12_1); have hf12_1 := hfr12 1; (try simp only [show (k81).sz = 2 from rfl, Nat.mul_one, Nat.add_zero] at hf12_1); clear hcl12 hcc12 hfr12 hM12) | ((with_reducible refine gate_store (t := 81) (p := 21) rfl ?_); refine store_event (t := 81) (p := 21) (v := ?vo_w13) (w1 := ((w11.setCell ⟨go10, (x4_1 : Int).toNat * 2, none⟩ (.int .i64 t105)).setCell ⟨go10, (x4_1 : Int).toNat * 2 + 1, none⟩ (.int .i64 t106))) ?hg ?ho ?hn ?hr ?_; (case ho => rfl); (case hg => rfl); (case hn => rfl); (case hr => (go_simp; try rfl)); intro w13 hw; have hg : w11.grownBy w13 (some go10) := (by rw [hw]; exact HP12.2); have hp_ : Kd.R k81 81 w13 w.heap.size (fun _ => True) (.slice (some ⟨go10, 0, none⟩) x3_1.length co10) y107 := (by rw [hw, Ny107.out]; exact HP12.1); clear HP12; replace HO_3 := Aside0.mk (hp_); replace HB := Aside0.mk ((by rw [hw]; exact dv_ (dv_ (HB.out) GB10.out) GB10.out : Below w.heap.size w w13)); clear hg hw hp_))
   go_roundg k1
   case measure => have := HK1.out; omega
   case rel => exact ⟨(y107), (wrap64 (x4_1 + 1)), (by first | rfl | (simp; done) | (simp [*]; done)), H', ⟨by have := HK1.out; omega⟩, ⟨rz HO_3.out⟩, ⟨bz HB.out⟩⟩
def bk_.l0 : Nat → List Int → List Int → Int → Option (List Int)
 | 0, _, _, _ => none
 | k + 1, x0, x3, x4 => if x4 < (x0.length : Int) then (if 0 ≤ x4 then (if x4 < (x3.length : Int) then (bk_.l0 k x0 (x3.set (x4 : Int).toNat (rd x0 x4)) (wrap64 (x4 + 1))) else (none)) else (none)) else (some x3)
def bk_.f (k : Nat) (l0 : List Int) : Option (List Int) := if 0 ≤ (l0.length : Int) then (if ((l0.length : Int) : Int).toNat ≤ 35184372088832 then (bk_.l0 k l0 (List.replicate ((l0.length : Int) : Int).toNat 0) 0) else (none)) else (none)
set_option maxHeartbeats 8000000 in
set_option maxRecDepth 100000 in
theorem bk_.calls (k : Nat) (A0 : Option Addr) (c0 : Nat) (l0 : List Int) (r : List Int) (w : World) (hr0 : Kd.C (Kd.int .i64) w A0 l0.length l0) (hc0 : l0.length ≤ c0) (h : bk_.f k l0 = some r) :
  Calls Try.prog 65 #[.slice A0 l0.length c0] w fun e w' => ∃ v0_ : Value, e = .returned (v0_) ∧ Kd.R (Kd.int .i64) 2 w' w.heap.size (fun _ => True) v0_ r ∧ Below w.heap.size w w' := by
 have HR0 := Aside0.mk hr0
 have HC0 := Aside0.mk hc0
 clear hr0 hc0
 have HB := Aside0.mk (Below.refl w.heap.size w)
 have H : (if 0 ≤ (l0.length : Int) then (if ((l0.length : Int) : Int).toNat ≤ 35184372088832 then (bk_.l0 k l0 (List.replicate ((l0.length : Int) : Int).toNat 0) 0) else (none)) else (none)) = some r := h
 clear h
 by_cases c2 : 0 ≤ (l0.length : Int)
 rotate_left
 ·rw [if_neg c2] at H
  exact absurd H (by simp)
 rw [if_pos c2] at H
 have c2b0 := eq_true c2
 have c2b1 : decide (0 ≤ (l0.length : Int)) = true := decide_eq_true c2
 clear c2
 by_cases c3 : ((l0.length : Int) : Int).toNat ≤ 35184372088832
 rotate_left
 ·rw [if_neg c3] at H
  exact absurd H (by simp)
 rw [if_pos c3] at H
 have c3b0 := eq_true c3
 have c3b1 : decide (((l0.length : Int) : Int).toNat ≤ 35184372088832) = true := decide_eq_true c3
 clear c3
 obtain ⟨y101, hy101⟩ : ∃ y_ : List Int, y_ = (List.replicate ((l0.length : Int) : Int).toNat 0) := ⟨_, rfl⟩
 replace H : (bk_.l0 k l0 y101 0) = some r := by first | (rw [hy101]; with_reducible exact H) | (have H2_ := (Option.bind_some _ _).symm.trans H; rw [hy101]; with_reducible exact H2_) | (have H2_ := (Option.bind_some _ _).symm.trans H; with_reducible exact H2_) | with_reducible exact H | (rw [hy101]; exact H) | exact H
 have Ny101 := Aside0.mk hy101
 clear hy101
 have H' := Aside0.mk H
 clear H
 go_enter Try.func65, Try.ntmps65
 go_wp2_with (first | ((with_reducible refine al_ (N := 7) rfl ?_); refine Kd.R_make (Kd.int .i64) _ 2 rfl (N := 7) rfl 71 _ _ rfl (l0.length : Int) rfl rfl Try.underlying71 (.int .i64 0) 8 info2 rfl (by decide) (by omega) 0 (ok := fun _ => True) (okp := fun _ => True) rfl (fun _ hk => hk) trivial (of_decide_eq_true (by assumption)) (Nat.le_trans (Nat.mul_le_mul_right _ (of_decide_eq_true (by assumption) : (l0.length : Int).toNat ≤ 35184372088832)) (by omega)) (Below.refl _ _) (Nat.le_refl _) ?_; intro v102 w4 ho5 hb hg_ hnew_; clear hg_ hnew_; (first | rw [← Ny101.out] at ho5 | (simp only [Int.reduceToNat] at ho5; rw [← Ny101.out] at ho5)); have HO103 := Aside0.mk (Kd.bq_ ho5 (ae_ (bz HB.out))); replace HB := Aside0.mk (ad_ (bz HB.out) hb); clear hb ho5))
 (try simp only [Act.put, lsa_, ls0_, ls1_])
 go_loopg [4] k (fun kq v4 w' => ∃ (x3_1 : List Int) (x4_1 : Int), v4 = .int .i64 x4_1 ∧ Aside0 (bk_.l0 kq l0 x3_1 x4_1 = some r) ∧ Aside0 (kq ≤ k) ∧ Aside0 (Kd.R (Kd.int .i64) 2 w' w.heap.size (fun _ => True) v102 x3_1) ∧ Aside0 (Below w.heap.size w w'))
 case atStart => exact ⟨(y101), (0), (by first | rfl | (simp; done) | (simp [*]; done)), H', ⟨Nat.le_refl _⟩, ⟨rz HO103.out⟩, ⟨bz HB.out⟩⟩
 case round =>
  clear H'
  obtain ⟨x3_1, x4_1, rfl, HA, HK1, HO_3, HB⟩ := hrel
  cases gk with
  | zero => exact absurd HA.out (by simp [bk_.l0])
  | succ k1 =>
   have H := HA.out
   clear HA
   simp only [bk_.l0] at H
   by_cases c6 : x4_1 < (l0.length : Int)
   rotate_left
   ·rw [if_neg c6] at H
    have c6b0 : decide (x4_1 < (l0.length : Int)) = false := decide_eq_false c6
    clear c6
    obtain rfl := Option.some.inj H
    go_wp2
    go_ret
    exact ⟨_, by first | rfl | (simp [*, ah_, ai_] <;> rfl), rz HO_3.out, bz HB.out⟩
   rw [if_pos c6] at H
   have c6b0 : decide (x4_1 < (l0.length : Int)) = true := decide_eq_true c6
   clear c6
   by_cases c7 : 0 ≤ x4_1
   rotate_left
   ·rw [if_neg c7] at H
    exact absurd H (by simp)
   rw [if_pos c7] at H
   have c7b0 : decide (0 ≤ x4_1) = true := decide_eq_true c7
   clear c7
   by_cases c8 : x4_1 < (x3_1.length : Int)
   rotate_left
   ·rw [if_neg c8] at H
    exact absurd H (by simp)
   rw [if_pos c8] at H
   have c8b0 : decide (x4_1 < (x3_1.length : Int)) = true := decide_eq_true c8
   clear c8
   obtain ⟨y105, hy105⟩ : ∃ y_ : List Int, y_ = (x3_1.set (x4_1 : Int).toNat (rd l0 x4_1)) := ⟨_, rfl⟩
   replace H : (bk_.l0 k1 l0 y105 (wrap64 (x4_1 + 1))) = some r := by first | (rw [hy105]; with_reducible exact H) | (have H2_ := (Option.bind_some _ _).symm.trans H; rw [hy105]; with_reducible exact H2_) | (have H2_ := (Option.bind_some _ _).symm.trans H; with_reducible exact H2_) | with_reducible exact H | (rw [hy105]; exact H) | exact H
   have Ny105 := Aside0.mk hy105
   clear hy105
   have H' := Aside0.mk H
   clear H
   have p104 : 0 ≤ (x4_1 : Int) := of_decide_eq_true (by assumption)
   have q104 : x4_1 < (l0.length : Int) := of_decide_eq_true (by assumption)
   obtain ⟨ad104, e104, hx104_0⟩ := Kd.at_int HR0.out x4_1 p104 q104
   cases e104
   replace hx104_0 := bu_ HB.out hx104_0
   replace p104 := eq_true p104
   replace q104 := eq_true q104
   have p9 : 0 ≤ (x4_1 : Int) := of_decide_eq_true (by assumption)
   have q9 : (x4_1 : Int) < ((x3_1.length : Int) : Int) := of_decide_eq_true (by assumption)
   obtain ⟨go9, co9, eo9, gb9, gl9, cl9, HG9⟩ := Kd.R_form HO_3.out (by omega)
   (first | cases eo9 | (injection eo9 with ea_ en_ ec_; (first | subst ea_ | (injection ea_ with ea_; subst ea_)); subst ec_; clear en_))
   have GB9 := Aside0.mk gb9
   have GG9 := Aside0.mk HG9
   clear gb9 gl9 HG9
   obtain ⟨hx9_0, hf9_0⟩ := Kd.R_celln 0 HO_3.out (x4_1 : Int) p9 q9
   replace p9 := eq_true p9
   replace q9 := eq_true q9
   have HP10 := Kd.R_putg HO_3.out (x4_1 : Int) (rd l0 x4_1)
   go_wp2_with (first | ((with_reducible refine gate_store (t := 2) (p := 20) rfl ?_); refine store_event (t := 2) (p := 20) (v := ?vo_w11) (w1 := (wr.setCell ⟨go9, (x4_1 : Int).toNat, none⟩ (.int .i64 (rd l0 x4_1)))) ?hg ?ho ?hn ?hr ?_; (case ho => rfl); (case hg => rfl); (case hn => rfl); (case hr => (go_simp; try rfl)); intro w11 hw; have hg : wr.grownBy w11 (some go9) := (by rw [hw]; exact HP10.2); have hp_ : Kd.R (Kd.int .i64) 2 w11 w.heap.size (fun _ => True) (.slice (some ⟨go9, 0, none⟩) x3_1.length co9) y105 := (by rw [hw, Ny105.out]; exact HP10.1); clear HP10; replace HO_3 := Aside0.mk (hp_); replace HB := Aside0.mk ((by rw [hw]; exact dv_ (HB.out) GB9.out : Below w.heap.size w w11)); clear hg hw hp_))
   go_roundg k1
   case measure => have := HK1.out; omega
   case rel => exact ⟨(y105), (wrap64 (x4_1 + 1)), (by first | rfl | (simp; done) | (simp [*]; done)), H', ⟨by have := HK1.out; omega⟩, ⟨rz HO_3.out⟩, ⟨bz HB.out⟩⟩
def dn_.f (k : Nat) (a0_0 : ByteArray) (l0_1 : List Int) : Option (ByteArray × List Int) := (bk_.f k l0_1).bind fun t104 => (some (a0_0, t104))
set_option maxHeartbeats 8000000 in
set_option maxRecDepth 100000 in
theorem dn_.calls (k : Nat) (a0_0 : ByteArray) (A0_1 : Option Addr) (c0_1 : Nat) (l0_1 : List Int) (r1 : ByteArray) (r2 : List Int) (w : World) (hr0_1 : Kd.C (Kd.int .i64) w A0_1 l0_1.length l0_1) (hc0_1 : l0_1.length ≤ c0_1) (h : dn_.f k a0_0 l0_1 = some (r1, r2)) :
  Calls Try.prog 51 #[.agg #[.string a0_0, .slice A0_1 l0_1.length c0_1]] w fun e w' => ∃ v1_ : Value, e = .returned (.agg #[.string r1, v1_]) ∧ Kd.R (Kd.int .i64) 2 w' w.heap.size (fun _ => True) v1_ r2 ∧ Below w.heap.size w w' := by
 have hu90 := Try.underlying90
 have hu85 := Try.underlying85
 have HR0_1 := Aside0.mk hr0_1
 have HC0_1 := Aside0.mk hc0_1
 clear hr0_1 hc0_1
 have HB := Aside0.mk (Below.refl w.heap.size w)
 have H : ((bk_.f k l0_1).bind fun t104 => (some (a0_0, t104))) = some (r1, r2) := h
 clear h
 replace H := Option.bind_eq_some_iff.mp H
 obtain ⟨t104, A20, H⟩ := H
 (try dsimp only at H)
 have A2 := Aside0.mk A20
 clear A20
 simp only [Option.some.injEq, Prod.mk.injEq] at H
 obtain ⟨rfl, rfl⟩ := H
 go_enter Try.func51, Try.ntmps51
 go_wp2_with (first | ((with_reducible refine al_ (N := 1) rfl ?_); refine ak_ ?hg (N := 1) ?hd (cs := #[.string a0_0, .slice A0_1 l0_1.length c0_1]) (t := 90) ?hr ?_; (case hd => rfl); (case hg => rfl); (case hr => (go_simp; try rfl)); intro gb101 hg w3 hbox hb; have BK101 := Aside0.mk (hbox); have GW101 := Aside0.mk ((by rw [hg]; exact (ae_ (bz HB.out)) : w.heap.size ≤ gb101)); have GE101 := GW101; replace HB := Aside0.mk (ad_ (bz HB.out) hb); clear hb hbox hg) | ((with_reducible refine al_ (N := 2) rfl ?_); refine ak_ ?hg (N := 2) ?hd (cs := #[.string (⟨#[]⟩ : ByteArray), .slice none 0 0]) (t := 85) ?hr ?_; (case hd => rfl); (case hg => rfl); (case hr => (go_simp; try rfl)); intro gb102 hg w4 hbox hb; have BK102 := Aside0.mk (hbox); have GW102 := Aside0.mk ((by rw [hg]; exact (ae_ (bq)) : w.heap.size ≤ gb102)); have GE102 := GW102; replace HB := Aside0.mk (ad_ (bq) hb); have NB101_102 := Aside0.mk ((by rw [hg]; exact Nat.ne_of_lt (aj_ (kz BK101.out)) : gb101 ≠ gb102)); have NB102_101 := Aside0.mk ((by rw [hg]; exact Nat.ne_of_gt (aj_ (kz BK101.out)) : gb102 ≠ gb101)); replace BK101 := Aside0.mk (aa_ (kz BK101.out) hb); clear hb hbox hg) | ((with_reducible refine al_ (N := 3) rfl ?_); refine ak_ ?hg (N := 3) ?hd (cs := #[.string (⟨#[]⟩ : ByteArray), .slice none 0 0]) (t := 85) ?hr ?_; (case hd => rfl); (case hg => rfl); (case hr => (go_simp; try rfl)); intro gb103 hg w5 hbox hb; have BK103 := Aside0.mk (hbox); have GW103 := Aside0.mk ((by rw [hg]; exact (ae_ (bq)) : w.heap.size ≤ gb103)); have GE103 := GW103; replace HB := Aside0.mk (ad_ (bq) hb); have NB101_103 := Aside0.mk ((by rw [hg]; exact Nat.ne_of_lt (aj_ (kz BK101.out)) : gb101 ≠ gb103)); have NB103_101 := Aside0.mk ((by rw [hg]; exact Nat.ne_of_gt (aj_ (kz BK101.out)) : gb103 ≠ gb101)); replace BK101 := Aside0.mk (aa_ (kz BK101.out) hb); have NB102_103 := Aside0.mk ((by rw [hg]; exact Nat.ne_of_lt (aj_ (kz BK102.out)) : gb102 ≠ gb103)); have NB103_102 := Aside0.mk ((by rw [hg]; exact Nat.ne_of_gt (aj_ (kz BK102.out)) : gb103 ≠ gb102)); replace BK102 := Aside0.mk (aa_ (kz BK102.out) hb); clear hb hbox hg; have hnb6 := NB101_102.out; have hnc6 := NB102_101.out; have hnb7 := NB101_103.out; have hnc7 := NB103_101.out; obtain ⟨hcz8_0, hcz8_1⟩ := cz2_ BK101.out; obtain ⟨hfz8_0, hfz8_1⟩ := fz2_ BK101.out; have hnb9 := NB103_102.out; have hnc9 := NB102_103.out; obtain ⟨hcz10_0, hcz10_1⟩ := cz2_ BK103.out; obtain ⟨hfz10_0, hfz10_1⟩ := fz2_ BK103.out) | ((with_reducible refine an_ (f := 65) rfl ?_); refine aU_ (some 9) rfl rfl Try.func65 (by kernel_rfl) rfl #[.slice A0_1 l0_1.length c0_1] rfl (by first | rfl | (simp only [lma_, lmc_, lmn_]; first | done | rfl)) ?_; (with_reducible refine (bk_.calls k _ _ l0_1 t104 _ ?side1 ?side2 A2.out).mono ?_); (case side1 => exact Kd.aF_ HR0_1.out (bq)); (case side2 => exact HC0_1.out); rintro e w11 ⟨v105, rfl, ho0, hb⟩; refine ⟨_, rfl, ?_⟩; have HO106 := Aside0.mk (Kd.bq_ ho0 (ae_ (bq))); replace BK101 := Aside0.mk (aa_ (g := gb101) (o := .cells #[.string a0_0, .slice A0_1 l0_1.length c0_1] 90 (0, 0)) (by exact kf (kz BK101.out) NB101_103.out) hb); replace BK102 := Aside0.mk (aa_ (g := gb102) (o := .cells #[.string (⟨#[]⟩ : ByteArray), .slice none 0 0] 85 (0, 0)) (by exact kf (kz BK102.out) NB102_103.out) hb); replace BK103 := Aside0.mk (aa_ (g := gb103) (o := .cells #[.string a0_0, .slice none 0 0] 85 (0, 0)) (by exact kj2_0 (kz BK103.out)) hb); replace HB := Aside0.mk (ad_ (bq) hb); (try clear hb); (try clear ho0); obtain ⟨Ao12, co12, eo12⟩ := Kd.bR_ HO106.out; subst eo12; obtain ⟨hcz13_0, hcz13_1⟩ := cz2_ BK103.out; obtain ⟨hfz13_0, hfz13_1⟩ := fz2_ BK103.out; obtain ⟨hcz14_0, hcz14_1⟩ := cz2_ BK102.out; obtain ⟨hfz14_0, hfz14_1⟩ := fz2_ BK102.out))
 refine bodyPost_ret (results_cell_row rfl _ _ gb102 85 #[.string a0_0, .slice Ao12 t104.length co12] (0, 0) _ rfl (by exact kj2_1 (kj2_0 (kf (kz BK102.out) NB102_103.out))) Try.underlying85 rfl (by kernel_rfl)) rfl ?_
 exact ⟨_, by first | rfl | (simp [*, ah_, ai_] <;> rfl), rz (Kd.bO_ (Kd.R_far (p := ⟨gb102, 1, none⟩) (Kd.R_far (p := ⟨gb102, 0, none⟩) (Kd.R_far (p := ⟨gb103, 1, none⟩) (Kd.de_ (Kd.de_ HO106.out BK103.out (by decide)) BK102.out (by decide)) (fun _ hk => hk.1.2) (.slice Ao12 t104.length co12)) (fun _ hk => hk.2) (.string a0_0)) (fun _ hk => hk.2) (.slice Ao12 t104.length co12)) (fun _ hk => trivial)), bq⟩
def bs_.l0 : Nat → List (S90) → List (S85) → Int → Option ((List (S85)))
 | 0, _, _, _ => none
 | k + 1, x0, x3, x4 => if x4 < (x0.length : Int) then (if 0 ≤ x4 then ((dn_.f k ((dk_ x0 x4).f0) ((dk_ x0 x4).f1)).bind fun bt105 => (if x4 < (x3.length : Int) then (bs_.l0 k x0 (x3.set (x4 : Int).toNat (⟨bt105.1, bt105.2⟩ : S85)) (wrap64 (x4 + 1))) else (none))) else (none)) else (some x3)
def bs_.f (k : Nat) (l0 : List (S90)) : Option ((List (S85))) := if 0 ≤ (l0.length : Int) then (if ((l0.length : Int) : Int).toNat ≤ 7036874417766 then (bs_.l0 k l0 (List.replicate ((l0.length : Int) : Int).toNat z85) 0) else (none)) else (none)
set_option maxHeartbeats 8000000 in
set_option maxRecDepth 100000 in
theorem bs_.calls (k : Nat) (A0 : Option Addr) (c0 : Nat) (l0 : List (S90)) (r : List (S85)) (w : World) (hr0 : Kd.C k90 w A0 l0.length l0) (hc0 : l0.length ≤ c0) (h : bs_.f k l0 = some r) :
  Calls Try.prog 35 #[.slice A0 l0.length c0] w fun e w' => ∃ v0_ : Value, e = .returned (v0_) ∧ Kd.S k85 85 w' w.heap.size (fun _ => True) v0_ r ∧ Below w.heap.size w w' := by
 have hu90 := Try.underlying90
 have hu85 := Try.underlying85
 have HR0 := Aside0.mk hr0
 have HC0 := Aside0.mk hc0
 clear hr0 hc0
 have HB := Aside0.mk (Below.refl w.heap.size w)
 have H : (if 0 ≤ (l0.length : Int) then (if ((l0.length : Int) : Int).toNat ≤ 7036874417766 then (bs_.l0 k l0 (List.replicate ((l0.length : Int) : Int).toNat z85) 0) else (none)) else (none)) = some r := h
 clear h
 by_cases c2 : 0 ≤ (l0.length : Int)
 rotate_left
 ·rw [if_neg c2] at H
  exact absurd H (by simp)
 rw [if_pos c2] at H
 have c2b0 := eq_true c2
 have c2b1 : decide (0 ≤ (l0.length : Int)) = true := decide_eq_true c2
 clear c2
 by_cases c3 : ((l0.length : Int) : Int).toNat ≤ 7036874417766
 rotate_left
 ·rw [if_neg c3] at H
  exact absurd H (by simp)
 rw [if_pos c3] at H
 have c3b0 := eq_true c3
 have c3b1 : decide (((l0.length : Int) : Int).toNat ≤ 7036874417766) = true := decide_eq_true c3
 clear c3
 obtain ⟨y101, hy101⟩ : ∃ y_ : List (S85), y_ = (List.replicate ((l0.length : Int) : Int).toNat z85) := ⟨_, rfl⟩
 replace H : (bs_.l0 k l0 y101 0) = some r := by first | (rw [hy101]; with_reducible exact H) | (have H2_ := (Option.bind_some _ _).symm.trans H; rw [hy101]; with_reducible exact H2_) | (have H2_ := (Option.bind_some _ _).symm.trans H; with_reducible exact H2_) | with_reducible exact H | (rw [hy101]; exact H) | exact H
 have Ny101 := Aside0.mk hy101
 clear hy101
 have H' := Aside0.mk H
 clear H
 go_enter Try.func35, Try.ntmps35
 go_wp2_with (first | ((with_reducible refine al_ (N := 7) rfl ?_); refine Kd.S_make k85 _ 85 rfl (N := 7) rfl 35 _ _ rfl (l0.length : Int) rfl rfl Try.underlying35 (.agg #[(.string ⟨#[]⟩), (.slice none 0 0)]) 40 info85 rfl (by decide) (by omega) z85 (ok := fun _ => True) (okp := fun _ => True) (k85_mkM _ _ _ z85 (Kd.R_nil _ _ _ _ _)) (fun _ hk => hk) trivial (of_decide_eq_true (by assumption)) (Nat.le_trans (Nat.mul_le_mul_right _ (of_decide_eq_true (by assumption) : (l0.length : Int).toNat ≤ 7036874417766)) (by omega)) (Below.refl _ _) (Nat.le_refl _) ?_; intro v102 w4 ho5 hb hg_ hnew_; clear hg_ hnew_; (first | rw [← Ny101.out] at ho5 | (simp only [Int.reduceToNat] at ho5; rw [← Ny101.out] at ho5)); have HO103 := Aside0.mk (Kd.S_lower ho5 (ae_ (bz HB.out))); replace HB := Aside0.mk (ad_ (bz HB.out) hb); clear hb ho5))
 (try simp only [Act.put, lsa_, ls0_, ls1_])
 go_loopg [4] k (fun kq v4 w' => ∃ (x3_1 : List (S85)) (x4_1 : Int), v4 = .int .i64 x4_1 ∧ Aside0 (bs_.l0 kq l0 x3_1 x4_1 = some r) ∧ Aside0 (kq ≤ k) ∧ Aside0 (Kd.S k85 85 w' w.heap.size (fun _ => True) v102 x3_1) ∧ Aside0 (Below w.heap.size w w'))
 case atStart => exact ⟨(y101), (0), (by first | rfl | (simp; done) | (simp [*]; done)), H', ⟨Nat.le_refl _⟩, ⟨sz HO103.out⟩, ⟨bz HB.out⟩⟩
 case round =>
  clear H'
  obtain ⟨x3_1, x4_1, rfl, HA, HK1, HO_3, HB⟩ := hrel
  cases gk with
  | zero => exact absurd HA.out (by simp [bs_.l0])
  | succ k1 =>
   have H := HA.out
   clear HA
   simp only [bs_.l0] at H
   by_cases c6 : x4_1 < (l0.length : Int)
   rotate_left
   ·rw [if_neg c6] at H
    have c6b0 : decide (x4_1 < (l0.length : Int)) = false := decide_eq_false c6
    clear c6
    obtain rfl := Option.some.inj H
    go_wp2
    go_ret
    exact ⟨_, by first | rfl | (simp [*, ah_, ai_] <;> rfl), sz HO_3.out, bz HB.out⟩
   rw [if_pos c6] at H
   have c6b0 : decide (x4_1 < (l0.length : Int)) = true := decide_eq_true c6
   clear c6
   by_cases c7 : 0 ≤ x4_1
   rotate_left
   ·rw [if_neg c7] at H
    exact absurd H (by simp)
   rw [if_pos c7] at H
   have c7b0 : decide (0 ≤ x4_1) = true := decide_eq_true c7
   clear c7
   replace H := Option.bind_eq_some_iff.mp H
   obtain ⟨⟨t105, t106⟩, A80, H⟩ := H
   (try dsimp only at H)
   have A8 := Aside0.mk A80
   clear A80
   by_cases c9 : x4_1 < (x3_1.length : Int)
   rotate_left
   ·rw [if_neg c9] at H
    exact absurd H (by simp)
   rw [if_pos c9] at H
   have c9b0 : decide (x4_1 < (x3_1.length : Int)) = true := decide_eq_true c9
   clear c9
   obtain ⟨y109, hy109⟩ : ∃ y_ : List (S85), y_ = (x3_1.set (x4_1 : Int).toNat (⟨t105, t106⟩ : S85)) := ⟨_, rfl⟩
   replace H : (bs_.l0 k1 l0 y109 (wrap64 (x4_1 + 1))) = some r := by first | (rw [hy109]; with_reducible exact H) | (have H2_ := (Option.bind_some _ _).symm.trans H; rw [hy109]; with_reducible exact H2_) | (have H2_ := (Option.bind_some _ _).symm.trans H; with_reducible exact H2_) | with_reducible exact H | (rw [hy109]; exact H) | exact H
   have Ny109 := Aside0.mk hy109
   clear hy109
   have H' := Aside0.mk H
   clear H
   have p104 : 0 ≤ (x4_1 : Int) := of_decide_eq_true (by assumption)
   have q104 : x4_1 < (l0.length : Int) := of_decide_eq_true (by assumption)
   obtain ⟨ad104, A104_1, c104_1, e104, hx104_0, hx104_1, hl104_1, hi104_1⟩ := at_T90 HR0.out x4_1 p104 q104
   cases e104
   replace hx104_0 := bu_ HB.out hx104_0
   replace hx104_1 := bu_ HB.out hx104_1
   have HR104_1 := Aside0.mk hi104_1
   have HC104_1 := Aside0.mk hl104_1
   clear hi104_1 hl104_1
   replace p104 := eq_true p104
   replace q104 := eq_true q104
   go_wp2_with (first | ((with_reducible refine an_ (f := 51) rfl ?_); refine aU_ (some 20) rfl rfl Try.func51 (by kernel_rfl) rfl #[.agg #[.string ((dk_ l0 x4_1).f0), .slice A104_1 ((dk_ l0 x4_1).f1).length c104_1]] rfl (by first | rfl | (simp only [lma_, lmc_, lmn_]; first | done | rfl)) ?_; (with_reducible refine (dn_.calls k1 ((dk_ l0 x4_1).f0) _ _ ((dk_ l0 x4_1).f1) t105 t106 _ ?side1 ?side2 A8.out).mono ?_); (case side1 => exact cz (Kd.aF_ HR104_1.out HB.out)); (case side2 => exact HC104_1.out); rintro e w11 ⟨v107, rfl, ho0, hb⟩; refine ⟨_, rfl, ?_⟩; replace HO_3 := Aside0.mk (Kd.S_elder' (sz HO_3.out) (Kd.bG_ ho0) hb); have HO108 := Aside0.mk (Kd.bq_ ho0 (ae_ (bz HB.out))); replace HB := Aside0.mk (ad_ (bz HB.out) hb); (try clear hb); (try clear ho0); have p10 : 0 ≤ (x4_1 : Int) := of_decide_eq_true (by assumption); have q10 : (x4_1 : Int) < ((x3_1.length : Int) : Int) := of_decide_eq_true (by assumption); obtain ⟨go10, co10, eo10, gb10, gl10, cl10, HG10⟩ := Kd.S_form HO_3.out (by omega); (first | cases eo10 | (injection eo10 with ea_ en_ ec_; (first | subst ea_ | (injection ea_ with ea_; subst ea_)); subst ec_; clear en_)); have GB10 := Aside0.mk gb10; have GG10 := Aside0.mk HG10; clear gb10 gl10 HG10; obtain ⟨_, ce10, hcl10, hM10, hcc10, hfr10, _, _⟩ := Kd.S_elem HO_3.out z85 (x4_1 : Int) p10 q10; obtain ⟨ve10_1, rfl, ge10_1⟩ := k85_openM hM10; have hx10_0 : w11.cell? ⟨go10, (x4_1 : Int).toNat * 2, none⟩ = some (.string ((aA_ x3_1 x4_1).f0)) := hcc10 0 _ rfl; have hx10_1 : w11.cell? ⟨go10, (x4_1 : Int).toNat * 2 + 1, none⟩ = some (ve10_1) := hcc10 1 _ rfl; have hf10_0 : w11.frozen? ⟨go10, (x4_1 : Int).toNat * 2, none⟩ = false := hfr10 0; have hf10_1 : w11.frozen? ⟨go10, (x4_1 : Int).toNat * 2 + 1, none⟩ = false := hfr10 1; clear hcl10 hcc10 hfr10 hM10; replace p10 := eq_true p10; replace q10 := eq_true q10; have n_ := Aside0.mk (Kd.S_mono (ok' := (fun k_ => some k_ ≠ (v107 : Value).ownBlock)) HO_3.out (fun k_ hk => hk.2)); clear HO_3; have HO_3 := n_; clear n_; have HX12 := Aside0.mk (show Kd.S k85 85 w11 w.heap.size (fun k_ => ((fun _ => True)) k_ ∧ ¬ ((fun k_ => some k_ = (v107 : Value).ownBlock)) k_) (.slice (some ⟨go10, 0, none⟩) x3_1.length co10) x3_1 from (sz (Kd.S_mono HO_3.out (fun k_ hk => ⟨trivial, fun e_ => hk e_⟩)))); obtain ⟨oki12, ce12, hcl12, hM12, hcc12, hfr12, hoki12, hH12⟩ := Kd.S_elem HX12.out z85 (x4_1 : Int) (of_decide_eq_true (by assumption)) (by have h_ : (x4_1 : Int) < ((x3_1.length : Int) : Int) := of_decide_eq_true (by assumption); first | exact h_ | (have e_ := (Kd.ds_ HO_3.out).1; omega) | simpa using h_); obtain ⟨ve12_1, rfl, ge12_1⟩ := k85_openM hM12; have HP12 := Kd.S_seg hH12 (of_decide_eq_true (by assumption)) (by have h_ : (x4_1 : Int) < ((x3_1.length : Int) : Int) := of_decide_eq_true (by assumption); first | exact h_ | (have e_ := (Kd.ds_ HO_3.out).1; omega) | simpa using h_) (seg := [.string t105, v107]) (j := 0) (show 2 ≤ 2 from by decide) (x' := (⟨t105, t106⟩ : S85)) (k85_mkM _ _ _ (⟨t105, t106⟩ : S85) (Kd.bO_ (Kd.R_tight rfl (Kd.bO_ (ok' := fun k_ => ((fun _ => True)) k_ ∧ k_ ≠ go10) (Kd.R_apart' (HO108.out) (Kd.S_typed HO_3.out) (by decide)) (fun k_ hk => ⟨trivial, fun e_ => (hk.2) (by rw [e_]; rfl)⟩))) (fun _ h_ => Or.inr (h_)))) (fun _ hk => hk) (fun k_ hk_ => ((Kd.bO_ (ok' := fun k_ => ((fun _ => True)) k_ ∧ k_ ≠ go10) (Kd.R_apart' (HO108.out) (Kd.S_typed HO_3.out) (by decide)) (fun k_ hk => ⟨trivial, fun e_ => (hk.2) (by rw [e_]; rfl)⟩))).1 k_ hk_.symm); have hx12_0 := hcc12 0 _ rfl; (try simp only [show (k85).sz = 2 from rfl, Nat.mul_one, Nat.add_zero] at hx12_0); have hf12_0 := hfr12 0; (try simp only [show (k85).sz = 2 from rfl, Nat.mul_one, Nat.add_zero] at hf12_0); have hx12_1 := hcc12 1 _ rfl; (try simp only [show (k85).sz = 2 from rfl, Nat.mul_one, Nat.add_zero] at hx12_1); have hf12_1 := hfr12 1; (try simp only [show (k85).sz = 2 from rfl, Nat.mul_one, Nat.add_zero] at hf12_1); clear hcl12 hcc12 hfr12 hM12 hoki12 hH12) | ((with_reducible refine gate_store (t := 85) (p := 21) rfl ?_); refine store_event (t := 85) (p := 21) (v := ?vo_w13) (w1 := ((w11.setCell ⟨go10, (x4_1 : Int).toNat * 2, none⟩ (.string t105)).setCell ⟨go10, (x4_1 : Int).toNat * 2 + 1, none⟩ (v107))) ?hg ?ho ?hn ?hr ?_; (case ho => rfl); (case hg => rfl); (case hn => rfl); (case hr => first | (go_simp; done) | (go_simp; rfl) | (have one0_ := (Kd.slice 2 (Kd.int .i64)).K_one ((Kd.slice 2 (Kd.int .i64)).K_of_M (show (Kd.slice 2 (Kd.int .i64)).M _ _ _ _ [v107] from ⟨_, rfl, HO108.out⟩)) v107 (List.mem_singleton.mpr rfl); go_simp; repeat (simp only [run_store _ _ _ _ _ one0_]; go_simp); first | done | rfl)); intro w13 hw; have hg : w11.grownBy w13 (some go10) := (by rw [hw]; exact HP12.2); have hp_ : Kd.S k85 85 w13 w.heap.size (fun _ => True) (.slice (some ⟨go10, 0, none⟩) x3_1.length co10) y109 := (by rw [hw, Ny109.out]; exact HP12.1); clear HP12; replace HO_3 := Aside0.mk (hp_); replace HB := Aside0.mk ((by rw [hw]; exact dv_ (dv_ (HB.out) GB10.out) GB10.out : Below w.heap.size w w13)); clear HO108; clear hg hw hp_))
   go_roundg k1
   case measure => have := HK1.out; omega
   case rel => exact ⟨(y109), (wrap64 (x4_1 + 1)), (by first | rfl | (simp; done) | (simp [*]; done)), H', ⟨by have := HK1.out; omega⟩, ⟨sz HO_3.out⟩, ⟨bz HB.out⟩⟩
def cu_.f (k : Nat) (a0_0 : Int) (a0_1 : Int) (l0_2 : List (S96)) (l0_3 : List (S90)) : Option (Int × Int × (List (S81)) × (List (S85))) := (bm_.f k l0_2).bind fun t104 => ((bs_.f k l0_3).bind fun t107 => (some (a0_0, a0_1, t104, t107)))
set_option maxHeartbeats 8000000 in
set_option maxRecDepth 100000 in
theorem cu_.calls (k : Nat) (a0_0 : Int) (a0_1 : Int) (A0_2 : Option Addr) (c0_2 : Nat) (l0_2 : List (S96)) (A0_3 : Option Addr) (c0_3 : Nat) (l0_3 : List (S90)) (r1 : Int) (r2 : Int) (r3 : List (S81)) (r4 : List (S85)) (w : World) (hr0_2 : Kd.C k96 w A0_2 l0_2.length l0_2) (hc0_2 : l0_2.length ≤ c0_2) (hr0_3 : Kd.C k90 w A0_3 l0_3.length l0_3) (hc0_3 : l0_3.length ≤ c0_3) (h : cu_.f k a0_0 a0_1 l0_2 l0_3 = some (r1, r2, r3, r4)) :
  Calls Try.prog 14 #[.agg #[.int .i64 a0_0, .int .i64 a0_1, .slice A0_2 l0_2.length c0_2, .slice A0_3 l0_3.length c0_3]] w fun e w' => ∃ v2_ v3_ : Value, e = .returned (.agg #[.int .i64 r1, .int .i64 r2, v2_, v3_]) ∧ Kd.R k81 81 w' w.heap.size (fun _ => True) v2_ r3 ∧ Kd.S k85 85 w' w.heap.size (fun _ => True) v3_ r4 ∧ Below w.heap.size w w' := by
 have hu25 := Try.underlying25
 have hu37 := Try.underlying37
 have HR0_2 := Aside0.mk hr0_2
 have HC0_2 := Aside0.mk hc0_2
 clear hr0_2 hc0_2
 have HR0_3 := Aside0.mk hr0_3
 have HC0_3 := Aside0.mk hc0_3
 clear hr0_3 hc0_3
 have HB := Aside0.mk (Below.refl w.heap.size w)
 have H : ((bm_.f k l0_2).bind fun t104 => ((bs_.f k l0_3).bind fun t107 => (some (a0_0, a0_1, t104, t107)))) = some (r1, r2, r3, r4) := h
 clear h
 replace H := Option.bind_eq_some_iff.mp H
 obtain ⟨t104, A20, H⟩ := H
 (try dsimp only at H)
 have A2 := Aside0.mk A20
 clear A20
 replace H := Option.bind_eq_some_iff.mp H
 obtain ⟨t107, A30, H⟩ := H
 (try dsimp only at H)
 have A3 := Aside0.mk A30
 clear A30
 simp only [Option.some.injEq, Prod.mk.injEq] at H
 obtain ⟨rfl, rfl, rfl, rfl⟩ := H
 go_enter Try.func14, Try.ntmps14
 go_wp2_with (first | ((with_reducible refine al_ (N := 1) rfl ?_); refine ak_ ?hg (N := 1) ?hd (cs := #[.int .i64 a0_0, .int .i64 a0_1, .slice A0_2 l0_2.length c0_2, .slice A0_3 l0_3.length c0_3]) (t := 25) ?hr ?_; (case hd => rfl); (case hg => rfl); (case hr => (go_simp; try rfl)); intro gb101 hg w4 hbox hb; have BK101 := Aside0.mk (hbox); have GW101 := Aside0.mk ((by rw [hg]; exact (ae_ (bz HB.out)) : w.heap.size ≤ gb101)); have GE101 := GW101; replace HB := Aside0.mk (ad_ (bz HB.out) hb); clear hb hbox hg) | ((with_reducible refine al_ (N := 2) rfl ?_); refine ak_ ?hg (N := 2) ?hd (cs := #[.int .i64 0, .int .i64 0, .slice none 0 0, .slice none 0 0]) (t := 37) ?hr ?_; (case hd => rfl); (case hg => rfl); (case hr => (go_simp; try rfl)); intro gb102 hg w5 hbox hb; have BK102 := Aside0.mk (hbox); have GW102 := Aside0.mk ((by rw [hg]; exact (ae_ (bq)) : w.heap.size ≤ gb102)); have GE102 := GW102; replace HB := Aside0.mk (ad_ (bq) hb); have NB101_102 := Aside0.mk ((by rw [hg]; exact Nat.ne_of_lt (aj_ (kz BK101.out)) : gb101 ≠ gb102)); have NB102_101 := Aside0.mk ((by rw [hg]; exact Nat.ne_of_gt (aj_ (kz BK101.out)) : gb102 ≠ gb101)); replace BK101 := Aside0.mk (aa_ (kz BK101.out) hb); clear hb hbox hg) | ((with_reducible refine al_ (N := 3) rfl ?_); refine ak_ ?hg (N := 3) ?hd (cs := #[.int .i64 0, .int .i64 0, .slice none 0 0, .slice none 0 0]) (t := 37) ?hr ?_; (case hd => rfl); (case hg => rfl); (case hr => (go_simp; try rfl)); intro gb103 hg w6 hbox hb; have BK103 := Aside0.mk (hbox); have GW103 := Aside0.mk ((by rw [hg]; exact (ae_ (bq)) : w.heap.size ≤ gb103)); have GE103 := GW103; replace HB := Aside0.mk (ad_ (bq) hb); have NB101_103 := Aside0.mk ((by rw [hg]; exact Nat.ne_of_lt (aj_ (kz BK101.out)) : gb101 ≠ gb103)); have NB103_101 := Aside0.mk ((by rw [hg]; exact Nat.ne_of_gt (aj_ (kz BK101.out)) : gb103 ≠ gb101)); replace BK101 := Aside0.mk (aa_ (kz BK101.out) hb); have NB102_103 := Aside0.mk ((by rw [hg]; exact Nat.ne_of_lt (aj_ (kz BK102.out)) : gb102 ≠ gb103)); have NB103_102 := Aside0.mk ((by rw [hg]; exact Nat.ne_of_gt (aj_ (kz BK102.out)) : gb103 ≠ gb102)); replace BK102 := Aside0.mk (aa_ (kz BK102.out) hb); clear hb hbox hg; have hnb7 := NB101_102.out; have hnc7 := NB102_101.out; have hnb8 := NB101_103.out; have hnc8 := NB103_101.out; obtain ⟨hcz9_0, hcz9_1, hcz9_2, hcz9_3⟩ := cz4_ BK101.out; obtain ⟨hfz9_0, hfz9_1, hfz9_2, hfz9_3⟩ := fz4_ BK101.out; have hnb10 := NB103_102.out; have hnc10 := NB102_103.out; obtain ⟨hcz11_0, hcz11_1, hcz11_2, hcz11_3⟩ := cz4_ BK103.out; obtain ⟨hfz11_0, hfz11_1, hfz11_2, hfz11_3⟩ := fz4_ BK103.out) | ((with_reducible refine an_ (f := 34) rfl ?_); refine aU_ (some 12) rfl rfl Try.func34 (by kernel_rfl) rfl #[.slice A0_2 l0_2.length c0_2] rfl (by first | rfl | (simp only [lma_, lmc_, lmn_]; first | done | rfl)) ?_; (with_reducible refine (bm_.calls k _ _ l0_2 t104 _ ?side1 ?side2 A2.out).mono ?_); (case side1 => exact Kd.aF_ HR0_2.out (bq)); (case side2 => exact HC0_2.out); rintro e w12 ⟨v105, rfl, ho0, hb⟩; refine ⟨_, rfl, ?_⟩; have HO106 := Aside0.mk (Kd.bq_ ho0 (ae_ (bq))); replace BK101 := Aside0.mk (aa_ (g := gb101) (o := .cells #[.int .i64 a0_0, .int .i64 a0_1, .slice A0_2 l0_2.length c0_2, .slice A0_3 l0_3.length c0_3] 25 (0, 0)) (by exact kf (kf (kz BK101.out) NB101_103.out) NB101_103.out) hb); replace BK102 := Aside0.mk (aa_ (g := gb102) (o := .cells #[.int .i64 0, .int .i64 0, .slice none 0 0, .slice none 0 0] 37 (0, 0)) (by exact kf (kf (kz BK102.out) NB102_103.out) NB102_103.out) hb); replace BK103 := Aside0.mk (aa_ (g := gb103) (o := .cells #[.int .i64 a0_0, .int .i64 a0_1, .slice none 0 0, .slice none 0 0] 37 (0, 0)) (by exact kj4_1 (kj4_0 (kz BK103.out))) hb); replace HB := Aside0.mk (ad_ (bq) hb); (try clear hb); (try clear ho0); obtain ⟨Ao13, co13, eo13⟩ := Kd.bR_ HO106.out; subst eo13; obtain ⟨hcz14_0, hcz14_1, hcz14_2, hcz14_3⟩ := cz4_ BK103.out; obtain ⟨hfz14_0, hfz14_1, hfz14_2, hfz14_3⟩ := fz4_ BK103.out; obtain ⟨hcz15_0, hcz15_1, hcz15_2, hcz15_3⟩ := cz4_ BK101.out; obtain ⟨hfz15_0, hfz15_1, hfz15_2, hfz15_3⟩ := fz4_ BK101.out) | ((with_reducible refine an_ (f := 35) rfl ?_); refine aU_ (some 16) rfl rfl Try.func35 (by kernel_rfl) rfl #[.slice A0_3 l0_3.length c0_3] rfl (by first | rfl | (simp only [lma_, lmc_, lmn_]; first | done | rfl)) ?_; (with_reducible refine (bs_.calls k _ _ l0_3 t107 _ ?side1 ?side2 A3.out).mono ?_); (case side1 => exact Kd.aF_ HR0_3.out (bq)); (case side2 => exact HC0_3.out); rintro e w16 ⟨v108, rfl, ho0, hb⟩; refine ⟨_, rfl, ?_⟩; replace HO106 := Aside0.mk (Kd.bM_ (rz (Kd.bO_ (Kd.R_far (p := ⟨gb103, 2, none⟩) (Kd.de_ HO106.out BK103.out (by decide)) (fun _ hk => hk.2) (.slice Ao13 t104.length co13)) (fun _ h_ => h_.1))) hb); have HO109 := Aside0.mk (Kd.S_lower ho0 (ae_ (bq))); replace BK101 := Aside0.mk (aa_ (g := gb101) (o := .cells #[.int .i64 a0_0, .int .i64 a0_1, .slice A0_2 l0_2.length c0_2, .slice A0_3 l0_3.length c0_3] 25 (0, 0)) (by exact kf (kz BK101.out) NB101_103.out) hb); replace BK102 := Aside0.mk (aa_ (g := gb102) (o := .cells #[.int .i64 0, .int .i64 0, .slice none 0 0, .slice none 0 0] 37 (0, 0)) (by exact kf (kz BK102.out) NB102_103.out) hb); replace BK103 := Aside0.mk (aa_ (g := gb103) (o := .cells #[.int .i64 a0_0, .int .i64 a0_1, .slice Ao13 t104.length co13, .slice none 0 0] 37 (0, 0)) (by exact kj4_2 (kz BK103.out)) hb); replace HB := Aside0.mk (ad_ (bq) hb); (try clear hb); (try clear ho0); obtain ⟨Ao17, co17, eo17⟩ := Kd.S_slice HO109.out; subst eo17; obtain ⟨hcz18_0, hcz18_1, hcz18_2, hcz18_3⟩ := cz4_ BK103.out; obtain ⟨hfz18_0, hfz18_1, hfz18_2, hfz18_3⟩ := fz4_ BK103.out; obtain ⟨hcz19_0, hcz19_1, hcz19_2, hcz19_3⟩ := cz4_ BK102.out; obtain ⟨hfz19_0, hfz19_1, hfz19_2, hfz19_3⟩ := fz4_ BK102.out))
 refine bodyPost_ret (results_cell_row rfl _ _ gb102 37 #[.int .i64 a0_0, .int .i64 a0_1, .slice Ao13 t104.length co13, .slice Ao17 t107.length co17] (0, 0) _ rfl (by exact kj4_3 (kj4_2 (kj4_1 (kj4_0 (kf (kz BK102.out) NB102_103.out))))) Try.underlying37 rfl (by kernel_rfl)) rfl ?_
 exact ⟨_, _, by first | rfl | (simp [*, ah_, ai_] <;> rfl), rz (Kd.bO_ (Kd.R_far (p := ⟨gb102, 3, none⟩) (Kd.R_far (p := ⟨gb102, 2, none⟩) (Kd.R_far (p := ⟨gb102, 1, none⟩) (Kd.R_far (p := ⟨gb102, 0, none⟩) (Kd.R_far (p := ⟨gb103, 3, none⟩) (Kd.de_ (Kd.de_ HO106.out BK103.out (by decide)) BK102.out (by decide)) (fun _ hk => hk.1.2) (.slice Ao17 t107.length co17)) (fun _ hk => hk.2) (.int .i64 a0_0)) (fun _ hk => hk.2) (.int .i64 a0_1)) (fun _ hk => hk.2) (.slice Ao13 t104.length co13)) (fun _ hk => hk.2) (.slice Ao17 t107.length co17)) (fun _ hk => trivial)), sz (Kd.S_mono (Kd.S_far (p := ⟨gb102, 3, none⟩) (Kd.S_far (p := ⟨gb102, 2, none⟩) (Kd.S_far (p := ⟨gb102, 1, none⟩) (Kd.S_far (p := ⟨gb102, 0, none⟩) (Kd.S_far (p := ⟨gb103, 3, none⟩) (Kd.S_types (Kd.S_types HO109.out BK103.out (by decide)) BK102.out (by decide)) (fun _ hk => hk.1.2) (.slice Ao17 t107.length co17)) (fun _ hk => hk.2) (.int .i64 a0_0)) (fun _ hk => hk.2) (.int .i64 a0_1)) (fun _ hk => hk.2) (.slice Ao13 t104.length co13)) (fun _ hk => hk.2) (.slice Ao17 t107.length co17)) (fun _ hk => trivial)), bq⟩
def cP_.f (a0_0 : ByteArray) (a0_1 : Int) (a0_2 : Int) : Option (ByteArray × Int × Int) := some (a0_0, a0_1, a0_2)
set_option maxHeartbeats 8000000 in
set_option maxRecDepth 100000 in
theorem cP_.calls (a0_0 : ByteArray) (a0_1 : Int) (a0_2 : Int) (r1 : ByteArray) (r2 : Int) (r3 : Int) (w : World) (h : cP_.f a0_0 a0_1 a0_2 = some (r1, r2, r3)) :
  Calls Try.prog 36 #[.agg #[.string a0_0, .int .i64 a0_1, .int .i64 a0_2]] w fun e w' => e = .returned (.agg #[.string r1, .int .i64 r2, .int .i64 r3]) ∧ Below w.heap.size w w' := by
 have hu66 := Try.underlying66
 have hu56 := Try.underlying56
 have HB := Aside0.mk (Below.refl w.heap.size w)
 have H : (some (a0_0, a0_1, a0_2)) = some (r1, r2, r3) := h
 clear h
 simp only [Option.some.injEq, Prod.mk.injEq] at H
 obtain ⟨rfl, rfl, rfl⟩ := H
 go_enter Try.func36, Try.ntmps36
 go_wp2_with (first | ((with_reducible refine al_ (N := 1) rfl ?_); refine ak_ ?hg (N := 1) ?hd (cs := #[.string a0_0, .int .i64 a0_1, .int .i64 a0_2]) (t := 66) ?hr ?_; (case hd => rfl); (case hg => rfl); (case hr => (go_simp; try rfl)); intro gb101 hg w2 hbox hb; have BK101 := Aside0.mk (hbox); have GW101 := Aside0.mk ((by rw [hg]; exact (ae_ (bz HB.out)) : w.heap.size ≤ gb101)); have GE101 := GW101; replace HB := Aside0.mk (ad_ (bz HB.out) hb); clear hb hbox hg) | ((with_reducible refine al_ (N := 2) rfl ?_); refine ak_ ?hg (N := 2) ?hd (cs := #[.string (⟨#[]⟩ : ByteArray), .int .i64 0, .int .i64 0]) (t := 56) ?hr ?_; (case hd => rfl); (case hg => rfl); (case hr => (go_simp; try rfl)); intro gb102 hg w3 hbox hb; have BK102 := Aside0.mk (hbox); have GW102 := Aside0.mk ((by rw [hg]; exact (ae_ (bq)) : w.heap.size ≤ gb102)); have GE102 := GW102; replace HB := Aside0.mk (ad_ (bq) hb); have NB101_102 := Aside0.mk ((by rw [hg]; exact Nat.ne_of_lt (aj_ (kz BK101.out)) : gb101 ≠ gb102)); have NB102_101 := Aside0.mk ((by rw [hg]; exact Nat.ne_of_gt (aj_ (kz BK101.out)) : gb102 ≠ gb101)); replace BK101 := Aside0.mk (aa_ (kz BK101.out) hb); clear hb hbox hg) | ((with_reducible refine al_ (N := 3) rfl ?_); refine ak_ ?hg (N := 3) ?hd (cs := #[.string (⟨#[]⟩ : ByteArray), .int .i64 0, .int .i64 0]) (t := 56) ?hr ?_; (case hd => rfl); (case hg => rfl); (case hr => (go_simp; try rfl)); intro gb103 hg w4 hbox hb; have BK103 := Aside0.mk (hbox); have GW103 := Aside0.mk ((by rw [hg]; exact (ae_ (bq)) : w.heap.size ≤ gb103)); have GE103 := GW103; replace HB := Aside0.mk (ad_ (bq) hb); have NB101_103 := Aside0.mk ((by rw [hg]; exact Nat.ne_of_lt (aj_ (kz BK101.out)) : gb101 ≠ gb103)); have NB103_101 := Aside0.mk ((by rw [hg]; exact Nat.ne_of_gt (aj_ (kz BK101.out)) : gb103 ≠ gb101)); replace BK101 := Aside0.mk (aa_ (kz BK101.out) hb); have NB102_103 := Aside0.mk ((by rw [hg]; exact Nat.ne_of_lt (aj_ (kz BK102.out)) : gb102 ≠ gb103)); have NB103_102 := Aside0.mk ((by rw [hg]; exact Nat.ne_of_gt (aj_ (kz BK102.out)) : gb103 ≠ gb102)); replace BK102 := Aside0.mk (aa_ (kz BK102.out) hb); clear hb hbox hg; have hnb5 := NB101_102.out; have hnc5 := NB102_101.out; have hnb6 := NB101_103.out; have hnc6 := NB103_101.out; obtain ⟨hcz7_0, hcz7_1, hcz7_2⟩ := cz3_ BK101.out; obtain ⟨hfz7_0, hfz7_1, hfz7_2⟩ := fz3_ BK101.out; have hnb8 := NB103_102.out; have hnc8 := NB102_103.out; obtain ⟨hcz9_0, hcz9_1, hcz9_2⟩ := cz3_ BK103.out; obtain ⟨hfz9_0, hfz9_1, hfz9_2⟩ := fz3_ BK103.out; obtain ⟨hcz10_0, hcz10_1, hcz10_2⟩ := cz3_ BK102.out; obtain ⟨hfz10_0, hfz10_1, hfz10_2⟩ := fz3_ BK102.out))
 refine bodyPost_ret (results_cell_row rfl _ _ gb102 56 #[.string a0_0, .int .i64 a0_1, .int .i64 a0_2] (0, 0) _ rfl (by exact kj3_2 (kj3_1 (kj3_0 (kf (kf (kf (kz BK102.out) NB102_103.out) NB102_103.out) NB102_103.out)))) Try.underlying56 rfl (by kernel_rfl)) rfl ?_
 exact ⟨by first | rfl | (simp [*, ah_, ai_] <;> rfl), bq⟩
def bf_.l0 : Nat → List (S66) → List (S56) → Int → Option ((List (S56)))
 | 0, _, _, _ => none
 | k + 1, x0, x3, x4 => if x4 < (x0.length : Int) then (if 0 ≤ x4 then ((cP_.f ((cK_ x0 x4).f0) ((cK_ x0 x4).f1) ((cK_ x0 x4).f2)).bind fun bt105 => (if x4 < (x3.length : Int) then (bf_.l0 k x0 (x3.set (x4 : Int).toNat (⟨bt105.1, bt105.2.1, bt105.2.2⟩ : S56)) (wrap64 (x4 + 1))) else (none))) else (none)) else (some x3)
def bf_.f (k : Nat) (l0 : List (S66)) : Option ((List (S56))) := if 0 ≤ (l0.length : Int) then (if ((l0.length : Int) : Int).toNat ≤ 8796093022208 then (bf_.l0 k l0 (List.replicate ((l0.length : Int) : Int).toNat z56) 0) else (none)) else (none)
set_option maxHeartbeats 8000000 in
set_option maxRecDepth 100000 in
theorem bf_.calls (k : Nat) (A0 : Option Addr) (c0 : Nat) (l0 : List (S66)) (r : List (S56)) (w : World) (hr0 : Kd.C k66 w A0 l0.length l0) (hc0 : l0.length ≤ c0) (h : bf_.f k l0 = some r) :
  Calls Try.prog 15 #[.slice A0 l0.length c0] w fun e w' => ∃ v0_ : Value, e = .returned (v0_) ∧ Kd.R k56 56 w' w.heap.size (fun _ => True) v0_ r ∧ Below w.heap.size w w' := by
 have hu66 := Try.underlying66
 have hu56 := Try.underlying56
 have HR0 := Aside0.mk hr0
 have HC0 := Aside0.mk hc0
 clear hr0 hc0
 have HB := Aside0.mk (Below.refl w.heap.size w)
 have H : (if 0 ≤ (l0.length : Int) then (if ((l0.length : Int) : Int).toNat ≤ 8796093022208 then (bf_.l0 k l0 (List.replicate ((l0.length : Int) : Int).toNat z56) 0) else (none)) else (none)) = some r := h
 clear h
 by_cases c2 : 0 ≤ (l0.length : Int)
 rotate_left
 ·rw [if_neg c2] at H
  exact absurd H (by simp)
 rw [if_pos c2] at H
 have c2b0 := eq_true c2
 have c2b1 : decide (0 ≤ (l0.length : Int)) = true := decide_eq_true c2
 clear c2
 by_cases c3 : ((l0.length : Int) : Int).toNat ≤ 8796093022208
 rotate_left
 ·rw [if_neg c3] at H
  exact absurd H (by simp)
 rw [if_pos c3] at H
 have c3b0 := eq_true c3
 have c3b1 : decide (((l0.length : Int) : Int).toNat ≤ 8796093022208) = true := decide_eq_true c3
 clear c3
 obtain ⟨y101, hy101⟩ : ∃ y_ : List (S56), y_ = (List.replicate ((l0.length : Int) : Int).toNat z56) := ⟨_, rfl⟩
 replace H : (bf_.l0 k l0 y101 0) = some r := by first | (rw [hy101]; with_reducible exact H) | (have H2_ := (Option.bind_some _ _).symm.trans H; rw [hy101]; with_reducible exact H2_) | (have H2_ := (Option.bind_some _ _).symm.trans H; with_reducible exact H2_) | with_reducible exact H | (rw [hy101]; exact H) | exact H
 have Ny101 := Aside0.mk hy101
 clear hy101
 have H' := Aside0.mk H
 clear H
 go_enter Try.func15, Try.ntmps15
 go_wp2_with (first | ((with_reducible refine al_ (N := 7) rfl ?_); refine Kd.R_make k56 _ 56 rfl (N := 7) rfl 38 _ _ rfl (l0.length : Int) rfl rfl Try.underlying38 (.agg #[(.string ⟨#[]⟩), (.int .i64 0), (.int .i64 0)]) 32 info56 rfl (by decide) (by omega) z56 (ok := fun _ => True) (okp := fun _ => True) (k56_mkM _ _ _ z56 ) (fun _ hk => hk) trivial (of_decide_eq_true (by assumption)) (Nat.le_trans (Nat.mul_le_mul_right _ (of_decide_eq_true (by assumption) : (l0.length : Int).toNat ≤ 8796093022208)) (by omega)) (Below.refl _ _) (Nat.le_refl _) ?_; intro v102 w4 ho5 hb hg_ hnew_; clear hg_ hnew_; (first | rw [← Ny101.out] at ho5 | (simp only [Int.reduceToNat] at ho5; rw [← Ny101.out] at ho5)); have HO103 := Aside0.mk (Kd.bq_ ho5 (ae_ (bz HB.out))); replace HB := Aside0.mk (ad_ (bz HB.out) hb); clear hb ho5))
 (try simp only [Act.put, lsa_, ls0_, ls1_])
 go_loopg [4] k (fun kq v4 w' => ∃ (x3_1 : List (S56)) (x4_1 : Int), v4 = .int .i64 x4_1 ∧ Aside0 (bf_.l0 kq l0 x3_1 x4_1 = some r) ∧ Aside0 (kq ≤ k) ∧ Aside0 (Kd.R k56 56 w' w.heap.size (fun _ => True) v102 x3_1) ∧ Aside0 (Below w.heap.size w w'))
 case atStart => exact ⟨(y101), (0), (by first | rfl | (simp; done) | (simp [*]; done)), H', ⟨Nat.le_refl _⟩, ⟨rz HO103.out⟩, ⟨bz HB.out⟩⟩
 case round =>
  clear H'
  obtain ⟨x3_1, x4_1, rfl, HA, HK1, HO_3, HB⟩ := hrel
  cases gk with
  | zero => exact absurd HA.out (by simp [bf_.l0])
  | succ k1 =>
   have H := HA.out
   clear HA
   simp only [bf_.l0] at H
   by_cases c6 : x4_1 < (l0.length : Int)
   rotate_left
   ·rw [if_neg c6] at H
    have c6b0 : decide (x4_1 < (l0.length : Int)) = false := decide_eq_false c6
    clear c6
    obtain rfl := Option.some.inj H
    go_wp2
    go_ret
    exact ⟨_, by first | rfl | (simp [*, ah_, ai_] <;> rfl), rz HO_3.out, bz HB.out⟩
   rw [if_pos c6] at H
   have c6b0 : decide (x4_1 < (l0.length : Int)) = true := decide_eq_true c6
   clear c6
   by_cases c7 : 0 ≤ x4_1
   rotate_left
   ·rw [if_neg c7] at H
    exact absurd H (by simp)
   rw [if_pos c7] at H
   have c7b0 : decide (0 ≤ x4_1) = true := decide_eq_true c7
   clear c7
   replace H := Option.bind_eq_some_iff.mp H
   obtain ⟨⟨t105, t106, t107⟩, A80, H⟩ := H
   (try dsimp only at H)
   have A8 := Aside0.mk A80
   clear A80
   by_cases c9 : x4_1 < (x3_1.length : Int)
   rotate_left
   ·rw [if_neg c9] at H
    exact absurd H (by simp)
   rw [if_pos c9] at H
   have c9b0 : decide (x4_1 < (x3_1.length : Int)) = true := decide_eq_true c9
   clear c9
   obtain ⟨y108, hy108⟩ : ∃ y_ : List (S56), y_ = (x3_1.set (x4_1 : Int).toNat (⟨t105, t106, t107⟩ : S56)) := ⟨_, rfl⟩
   replace H : (bf_.l0 k1 l0 y108 (wrap64 (x4_1 + 1))) = some r := by first | (rw [hy108]; with_reducible exact H) | (have H2_ := (Option.bind_some _ _).symm.trans H; rw [hy108]; with_reducible exact H2_) | (have H2_ := (Option.bind_some _ _).symm.trans H; with_reducible exact H2_) | with_reducible exact H | (rw [hy108]; exact H) | exact H
   have Ny108 := Aside0.mk hy108
   clear hy108
   have H' := Aside0.mk H
   clear H
   have p104 : 0 ≤ (x4_1 : Int) := of_decide_eq_true (by assumption)
   have q104 : x4_1 < (l0.length : Int) := of_decide_eq_true (by assumption)
   obtain ⟨ad104, e104, hx104_0, hx104_1, hx104_2⟩ := at_T66 HR0.out x4_1 p104 q104
   cases e104
   replace hx104_0 := bu_ HB.out hx104_0
   replace hx104_1 := bu_ HB.out hx104_1
   replace hx104_2 := bu_ HB.out hx104_2
   replace p104 := eq_true p104
   replace q104 := eq_true q104
   go_wp2_with (first | ((with_reducible refine an_ (f := 36) rfl ?_); refine aU_ (some 20) rfl rfl Try.func36 (by kernel_rfl) rfl #[.agg #[.string ((cK_ l0 x4_1).f0), .int .i64 ((cK_ l0 x4_1).f1), .int .i64 ((cK_ l0 x4_1).f2)]] rfl (by first | rfl | (simp only [lma_, lmc_, lmn_]; first | done | rfl)) ?_; (with_reducible refine (cP_.calls ((cK_ l0 x4_1).f0) ((cK_ l0 x4_1).f1) ((cK_ l0 x4_1).f2) t105 t106 t107 _ A8.out).mono ?_); rintro e w11 ⟨rfl, hb⟩; refine ⟨_, rfl, ?_⟩; replace HO_3 := Aside0.mk (Kd.bM_ (rz HO_3.out) hb); replace HB := Aside0.mk (ad_ (bz HB.out) hb); (try clear hb); have p10 : 0 ≤ (x4_1 : Int) := of_decide_eq_true (by assumption); have q10 : (x4_1 : Int) < ((x3_1.length : Int) : Int) := of_decide_eq_true (by assumption); obtain ⟨go10, co10, eo10, gb10, gl10, cl10, HG10⟩ := Kd.R_form HO_3.out (by omega); (first | cases eo10 | (injection eo10 with ea_ en_ ec_; (first | subst ea_ | (injection ea_ with ea_; subst ea_)); subst ec_; clear en_)); have GB10 := Aside0.mk gb10; have GG10 := Aside0.mk HG10; clear gb10 gl10 HG10; obtain ⟨ce10, hcl10, hM10, hcc10, hfr10⟩ := Kd.R_elem HO_3.out z56 (x4_1 : Int) p10 q10; obtain rfl := k56_openM hM10; have hx10_0 : w11.cell? ⟨go10, (x4_1 : Int).toNat * 3, none⟩ = some (.string ((aR_ x3_1 x4_1).f0)) := hcc10 0 _ rfl; have hx10_1 : w11.cell? ⟨go10, (x4_1 : Int).toNat * 3 + 1, none⟩ = some (.int .i64 ((aR_ x3_1 x4_1).f1)) := hcc10 1 _ rfl; have hx10_2 : w11.cell? ⟨go10, (x4_1 : Int).toNat * 3 + 2, none⟩ = some (.int .i64 ((aR_ x3_1 x4_1).f2)) := hcc10 2 _ rfl; have hf10_0 : w11.frozen? ⟨go10, (x4_1 : Int).toNat * 3, none⟩ = false := hfr10 0; have hf10_1 : w11.frozen? ⟨go10, (x4_1 : Int).toNat * 3 + 1, none⟩ = false := hfr10 1; have hf10_2 : w11.frozen? ⟨go10, (x4_1 : Int).toNat * 3 + 2, none⟩ = false := hfr10 2; clear hcl10 hcc10 hfr10 hM10; replace p10 := eq_true p10; replace q10 := eq_true q10; have HX12 := Aside0.mk (show Kd.R k56 56 w11 w.heap.size (fun _ => True) (.slice (some ⟨go10, 0, none⟩) x3_1.length co10) x3_1 from (rz HO_3.out)); obtain ⟨ce12, hcl12, hM12, hcc12, hfr12⟩ := Kd.R_elem HX12.out z56 (x4_1 : Int) (of_decide_eq_true (by assumption)) (by have h_ : (x4_1 : Int) < ((x3_1.length : Int) : Int) := of_decide_eq_true (by assumption); first | exact h_ | (have e_ := (Kd.aV_ HO_3.out).1; omega) | simpa using h_); obtain rfl := k56_openM hM12; have HP12 := Kd.R_seg HX12.out (x4_1 : Int) (of_decide_eq_true (by assumption)) (by have h_ : (x4_1 : Int) < ((x3_1.length : Int) : Int) := of_decide_eq_true (by assumption); first | exact h_ | (have e_ := (Kd.aV_ HO_3.out).1; omega) | simpa using h_) (seg := [.string t105, .int .i64 t106, .int .i64 t107]) (j := 0) hcl12 hcc12 (show 3 ≤ 3 from by decide) (x' := (⟨t105, t106, t107⟩ : S56)) (k56_mkM _ _ _ (⟨t105, t106, t107⟩ : S56) ) (fun _ hk => hk); have hx12_0 := hcc12 0 _ rfl; (try simp only [show (k56).sz = 3 from rfl, Nat.mul_one, Nat.add_zero] at hx12_0); have hf12_0 := hfr12 0; (try simp only [show (k56).sz = 3 from rfl, Nat.mul_one, Nat.add_zero] at hf12_0); have hx12_1 := hcc12 1 _ rfl; (try simp only [show (k56).sz = 3 from rfl, Nat.mul_one, Nat.add_zero] at hx12_1); have hf12_1 := hfr12 1; (try simp only [show (k56).sz = 3 from rfl, Nat.mul_one, Nat.add_zero] at hf12_1); have hx12_2 := hcc12 2 _ rfl; (try simp only [show (k56).sz = 3 from rfl, Nat.mul_one, Nat.add_zero] at hx12_2); have hf12_2 := hfr12 2; (try simp only [show (k56).sz = 3 from rfl, Nat.mul_one, Nat.add_zero] at hf12_2); clear hcl12 hcc12 hfr12 hM12) | ((with_reducible refine gate_store (t := 56) (p := 21) rfl ?_); refine store_event (t := 56) (p := 21) (v := ?vo_w13) (w1 := (((w11.setCell ⟨go10, (x4_1 : Int).toNat * 3, none⟩ (.string t105)).setCell ⟨go10, (x4_1 : Int).toNat * 3 + 1, none⟩ (.int .i64 t106)).setCell ⟨go10, (x4_1 : Int).toNat * 3 + 2, none⟩ (.int .i64 t107))) ?hg ?ho ?hn ?hr ?_; (case ho => rfl); (case hg => rfl); (case hn => rfl); (case hr => (go_simp; try rfl)); intro w13 hw; have hg : w11.grownBy w13 (some go10) := (by rw [hw]; exact HP12.2); have hp_ : Kd.R k56 56 w13 w.heap.size (fun _ => True) (.slice (some ⟨go10, 0, none⟩) x3_1.length co10) y108 := (by rw [hw, Ny108.out]; exact HP12.1); clear HP12; replace HO_3 := Aside0.mk (hp_); replace HB := Aside0.mk ((by rw [hw]; exact dv_ (dv_ (dv_ (HB.out) GB10.out) GB10.out) GB10.out : Below w.heap.size w w13)); clear hg hw hp_))
   go_roundg k1
   case measure => have := HK1.out; omega
   case rel => exact ⟨(y108), (wrap64 (x4_1 + 1)), (by first | rfl | (simp; done) | (simp [*]; done)), H', ⟨by have := HK1.out; omega⟩, ⟨rz HO_3.out⟩, ⟨bz HB.out⟩⟩
def bJ_.f (k : Nat) (a0_0 : Int) (a0_1 : Int) (l0_2 : List (S96)) (l0_3 : List (S90)) (l0_4 : List (S66)) : Option (Int × Int × (List (S81)) × (List (S85)) × (List (S56))) := (cu_.f k a0_0 a0_1 l0_2 l0_3).bind fun bt104 => ((bf_.f k l0_4).bind fun t112 => (some (bt104.1, bt104.2.1, bt104.2.2.1, bt104.2.2.2, t112)))
set_option maxHeartbeats 8000000 in
set_option maxRecDepth 100000 in
theorem bJ_.calls (k : Nat) (a0_0 : Int) (a0_1 : Int) (A0_2 : Option Addr) (c0_2 : Nat) (l0_2 : List (S96)) (A0_3 : Option Addr) (c0_3 : Nat) (l0_3 : List (S90)) (A0_4 : Option Addr) (c0_4 : Nat) (l0_4 : List (S66)) (r1 : Int) (r2 : Int) (r3 : List (S81)) (r4 : List (S85)) (r5 : List (S56)) (w : World) (hr0_2 : Kd.C k96 w A0_2 l0_2.length l0_2) (hc0_2 : l0_2.length ≤ c0_2) (hr0_3 : Kd.C k90 w A0_3 l0_3.length l0_3) (hc0_3 : l0_3.length ≤ c0_3) (hr0_4 : Kd.C k66 w A0_4 l0_4.length l0_4) (hc0_4 : l0_4.length ≤ c0_4) (h : bJ_.f k a0_0 a0_1 l0_2 l0_3 l0_4 = some (r1, r2, r3, r4, r5)) :
  Calls Try.prog 6 #[.agg #[.int .i64 a0_0, .int .i64 a0_1, .slice A0_2 l0_2.length c0_2, .slice A0_3 l0_3.length c0_3, .slice A0_4 l0_4.length c0_4]] w fun e w' => ∃ v2_ v3_ v4_ : Value, e = .returned (.agg #[.int .i64 r1, .int .i64 r2, v2_, v3_, v4_]) ∧ Kd.R k81 81 w' w.heap.size (fun _ => True) v2_ r3 ∧ Kd.S k85 85 w' w.heap.size (fun _ => True) v3_ r4 ∧ Kd.R k56 56 w' w.heap.size (fun _ => True) v4_ r5 ∧ Below w.heap.size w w' := by
 have hu28 := Try.underlying28
 have hu40 := Try.underlying40
 have hu25 := Try.underlying25
 have hu37 := Try.underlying37
 have HR0_2 := Aside0.mk hr0_2
 have HC0_2 := Aside0.mk hc0_2
 clear hr0_2 hc0_2
 have HR0_3 := Aside0.mk hr0_3
 have HC0_3 := Aside0.mk hc0_3
 clear hr0_3 hc0_3
 have HR0_4 := Aside0.mk hr0_4
 have HC0_4 := Aside0.mk hc0_4
 clear hr0_4 hc0_4
 have HB := Aside0.mk (Below.refl w.heap.size w)
 have H : ((cu_.f k a0_0 a0_1 l0_2 l0_3).bind fun bt104 => ((bf_.f k l0_4).bind fun t112 => (some (bt104.1, bt104.2.1, bt104.2.2.1, bt104.2.2.2, t112)))) = some (r1, r2, r3, r4, r5) := h
 clear h
 replace H := Option.bind_eq_some_iff.mp H
 obtain ⟨⟨t104, t105, t106, t109⟩, A20, H⟩ := H
 (try dsimp only at H)
 have A2 := Aside0.mk A20
 clear A20
 replace H := Option.bind_eq_some_iff.mp H
 obtain ⟨t112, A30, H⟩ := H
 (try dsimp only at H)
 have A3 := Aside0.mk A30
 clear A30
 simp only [Option.some.injEq, Prod.mk.injEq] at H
 obtain ⟨rfl, rfl, rfl, rfl, rfl⟩ := H
 go_enter Try.func6, Try.ntmps6
 go_wp2_with (first | ((with_reducible refine al_ (N := 1) rfl ?_); refine ak_ ?hg (N := 1) ?hd (cs := #[.int .i64 a0_0, .int .i64 a0_1, .slice A0_2 l0_2.length c0_2, .slice A0_3 l0_3.length c0_3, .slice A0_4 l0_4.length c0_4]) (t := 28) ?hr ?_; (case hd => rfl); (case hg => rfl); (case hr => (go_simp; try rfl)); intro gb101 hg w4 hbox hb; have BK101 := Aside0.mk (hbox); have GW101 := Aside0.mk ((by rw [hg]; exact (ae_ (bz HB.out)) : w.heap.size ≤ gb101)); have GE101 := GW101; replace HB := Aside0.mk (ad_ (bz HB.out) hb); clear hb hbox hg) | ((with_reducible refine al_ (N := 2) rfl ?_); refine ak_ ?hg (N := 2) ?hd (cs := #[.int .i64 0, .int .i64 0, .slice none 0 0, .slice none 0 0, .slice none 0 0]) (t := 40) ?hr ?_; (case hd => rfl); (case hg => rfl); (case hr => (go_simp; try rfl)); intro gb102 hg w5 hbox hb; have BK102 := Aside0.mk (hbox); have GW102 := Aside0.mk ((by rw [hg]; exact (ae_ (bq)) : w.heap.size ≤ gb102)); have GE102 := GW102; replace HB := Aside0.mk (ad_ (bq) hb); have NB101_102 := Aside0.mk ((by rw [hg]; exact Nat.ne_of_lt (aj_ (kz BK101.out)) : gb101 ≠ gb102)); have NB102_101 := Aside0.mk ((by rw [hg]; exact Nat.ne_of_gt (aj_ (kz BK101.out)) : gb102 ≠ gb101)); replace BK101 := Aside0.mk (aa_ (kz BK101.out) hb); clear hb hbox hg) | ((with_reducible refine al_ (N := 3) rfl ?_); refine ak_ ?hg (N := 3) ?hd (cs := #[.int .i64 0, .int .i64 0, .slice none 0 0, .slice none 0 0, .slice none 0 0]) (t := 40) ?hr ?_; (case hd => rfl); (case hg => rfl); (case hr => (go_simp; try rfl)); intro gb103 hg w6 hbox hb; have BK103 := Aside0.mk (hbox); have GW103 := Aside0.mk ((by rw [hg]; exact (ae_ (bq)) : w.heap.size ≤ gb103)); have GE103 := GW103; replace HB := Aside0.mk (ad_ (bq) hb); have NB101_103 := Aside0.mk ((by rw [hg]; exact Nat.ne_of_lt (aj_ (kz BK101.out)) : gb101 ≠ gb103)); have NB103_101 := Aside0.mk ((by rw [hg]; exact Nat.ne_of_gt (aj_ (kz BK101.out)) : gb103 ≠ gb101)); replace BK101 := Aside0.mk (aa_ (kz BK101.out) hb); have NB102_103 := Aside0.mk ((by rw [hg]; exact Nat.ne_of_lt (aj_ (kz BK102.out)) : gb102 ≠ gb103)); have NB103_102 := Aside0.mk ((by rw [hg]; exact Nat.ne_of_gt (aj_ (kz BK102.out)) : gb103 ≠ gb102)); replace BK102 := Aside0.mk (aa_ (kz BK102.out) hb); clear hb hbox hg; have hnb7 := NB101_102.out; have hnc7 := NB102_101.out; have hnb8 := NB101_103.out; have hnc8 := NB103_101.out; obtain ⟨hcz9_0, hcz9_1, hcz9_2, hcz9_3, hcz9_4⟩ := cz5_ BK101.out; obtain ⟨hfz9_0, hfz9_1, hfz9_2, hfz9_3, hfz9_4⟩ := fz5_ BK101.out) | ((with_reducible refine an_ (f := 14) rfl ?_); refine aU_ (some 6) rfl rfl Try.func14 (by kernel_rfl) rfl #[.agg #[.int .i64 a0_0, .int .i64 a0_1, .slice A0_2 l0_2.length c0_2, .slice A0_3 l0_3.length c0_3]] rfl (by first | rfl | (simp only [lma_, lmc_, lmn_]; first | done | rfl)) ?_; (with_reducible refine (cu_.calls k a0_0 a0_1 _ _ l0_2 _ _ l0_3 t104 t105 t106 t109 _ ?side1 ?side2 ?side3 ?side4 A2.out).mono ?_); (case side1 => exact cz (Kd.aF_ HR0_2.out HB.out)); (case side2 => exact HC0_2.out); (case side3 => exact cz (Kd.aF_ HR0_3.out HB.out)); (case side4 => exact HC0_3.out); rintro e w10 ⟨v107, v110, rfl, ho0, ho1, hb⟩; refine ⟨_, rfl, ?_⟩; have HO108 := Aside0.mk (Kd.bq_ ho0 (ae_ (bq))); have HO111 := Aside0.mk (Kd.S_lower ho1 (ae_ (bq))); replace BK101 := Aside0.mk (aa_ (kz BK101.out) hb); replace BK102 := Aside0.mk (aa_ (kz BK102.out) hb); replace BK103 := Aside0.mk (aa_ (kz BK103.out) hb); replace HB := Aside0.mk (ad_ (bq) hb); (try clear hb); (try clear ho0); (try clear ho1); have hnb11 := NB103_102.out; have hnc11 := NB102_103.out; obtain ⟨hcz12_0, hcz12_1, hcz12_2, hcz12_3, hcz12_4⟩ := cz5_ BK103.out; obtain ⟨hfz12_0, hfz12_1, hfz12_2, hfz12_3, hfz12_4⟩ := fz5_ BK103.out; obtain ⟨Ao13, co13, eo13⟩ := Kd.bR_ HO108.out; subst eo13; obtain ⟨Ao14, co14, eo14⟩ := Kd.S_slice HO111.out; subst eo14; obtain ⟨hcz15_0, hcz15_1, hcz15_2, hcz15_3, hcz15_4⟩ := cz5_ BK101.out; obtain ⟨hfz15_0, hfz15_1, hfz15_2, hfz15_3, hfz15_4⟩ := fz5_ BK101.out) | ((with_reducible refine an_ (f := 15) rfl ?_); refine aU_ (some 10) rfl rfl Try.func15 (by kernel_rfl) rfl #[.slice A0_4 l0_4.length c0_4] rfl (by first | rfl | (simp only [lma_, lmc_, lmn_]; first | done | rfl)) ?_; (with_reducible refine (bf_.calls k _ _ l0_4 t112 _ ?side1 ?side2 A3.out).mono ?_); (case side1 => exact Kd.aF_ HR0_4.out (bq)); (case side2 => exact HC0_4.out); rintro e w16 ⟨v113, rfl, ho0, hb⟩; refine ⟨_, rfl, ?_⟩; replace HO108 := Aside0.mk (Kd.bM_ (rz (Kd.bO_ (Kd.R_far (p := ⟨gb103, 3, none⟩) (Kd.R_far (p := ⟨gb103, 2, none⟩) (Kd.R_far (p := ⟨gb103, 1, none⟩) (Kd.R_far (p := ⟨gb103, 0, none⟩) (Kd.de_ HO108.out BK103.out (by decide)) (fun _ hk => hk.2) (.int .i64 t104)) (fun _ hk => hk.2) (.int .i64 t105)) (fun _ hk => hk.2) (.slice Ao13 t106.length co13)) (fun _ hk => hk.2) (.slice Ao14 t109.length co14)) (fun _ h_ => h_.1))) hb); replace HO111 := Aside0.mk (Kd.do_ (sz (Kd.S_mono (Kd.S_far (p := ⟨gb103, 3, none⟩) (Kd.S_far (p := ⟨gb103, 2, none⟩) (Kd.S_far (p := ⟨gb103, 1, none⟩) (Kd.S_far (p := ⟨gb103, 0, none⟩) (Kd.S_types HO111.out BK103.out (by decide)) (fun _ hk => hk.2) (.int .i64 t104)) (fun _ hk => hk.2) (.int .i64 t105)) (fun _ hk => hk.2) (.slice Ao13 t106.length co13)) (fun _ hk => hk.2) (.slice Ao14 t109.length co14)) (fun _ h_ => h_.1))) hb); have HO114 := Aside0.mk (Kd.bq_ ho0 (ae_ (bq))); replace BK101 := Aside0.mk (aa_ (g := gb101) (o := .cells #[.int .i64 a0_0, .int .i64 a0_1, .slice A0_2 l0_2.length c0_2, .slice A0_3 l0_3.length c0_3, .slice A0_4 l0_4.length c0_4] 28 (0, 0)) (by exact kf (kf (kf (kf (kz BK101.out) NB101_103.out) NB101_103.out) NB101_103.out) NB101_103.out) hb); replace BK102 := Aside0.mk (aa_ (g := gb102) (o := .cells #[.int .i64 0, .int .i64 0, .slice none 0 0, .slice none 0 0, .slice none 0 0] 40 (0, 0)) (by exact kf (kf (kf (kf (kz BK102.out) NB102_103.out) NB102_103.out) NB102_103.out) NB102_103.out) hb); replace BK103 := Aside0.mk (aa_ (g := gb103) (o := .cells #[.int .i64 t104, .int .i64 t105, .slice Ao13 t106.length co13, .slice Ao14 t109.length co14, .slice none 0 0] 40 (0, 0)) (by exact kj5_3 (kj5_2 (kj5_1 (kj5_0 (kz BK103.out))))) hb); replace HB := Aside0.mk (ad_ (bq) hb); (try clear hb); (try clear ho0); obtain ⟨Ao17, co17, eo17⟩ := Kd.bR_ HO114.out; subst eo17; obtain ⟨hcz18_0, hcz18_1, hcz18_2, hcz18_3, hcz18_4⟩ := cz5_ BK103.out; obtain ⟨hfz18_0, hfz18_1, hfz18_2, hfz18_3, hfz18_4⟩ := fz5_ BK103.out; obtain ⟨hcz19_0, hcz19_1, hcz19_2, hcz19_3, hcz19_4⟩ := cz5_ BK102.out; obtain ⟨hfz19_0, hfz19_1, hfz19_2, hfz19_3, hfz19_4⟩ := fz5_ BK102.out))
 refine bodyPost_ret (results_cell_row rfl _ _ gb102 40 #[.int .i64 t104, .int .i64 t105, .slice Ao13 t106.length co13, .slice Ao14 t109.length co14, .slice Ao17 t112.length co17] (0, 0) _ rfl (by exact kj5_4 (kj5_3 (kj5_2 (kj5_1 (kj5_0 (kf (kz BK102.out) NB102_103.out)))))) Try.underlying40 rfl (by kernel_rfl)) rfl ?_
 exact ⟨_, _, _, by first | rfl | (simp [*, ah_, ai_] <;> rfl), rz (Kd.bO_ (Kd.R_far (p := ⟨gb102, 4, none⟩) (Kd.R_far (p := ⟨gb102, 3, none⟩) (Kd.R_far (p := ⟨gb102, 2, none⟩) (Kd.R_far (p := ⟨gb102, 1, none⟩) (Kd.R_far (p := ⟨gb102, 0, none⟩) (Kd.R_far (p := ⟨gb103, 4, none⟩) (Kd.de_ (Kd.de_ HO108.out BK103.out (by decide)) BK102.out (by decide)) (fun _ hk => hk.1.2) (.slice Ao17 t112.length co17)) (fun _ hk => hk.2) (.int .i64 t104)) (fun _ hk => hk.2) (.int .i64 t105)) (fun _ hk => hk.2) (.slice Ao13 t106.length co13)) (fun _ hk => hk.2) (.slice Ao14 t109.length co14)) (fun _ hk => hk.2) (.slice Ao17 t112.length co17)) (fun _ hk => trivial)), sz (Kd.S_mono (Kd.S_far (p := ⟨gb102, 4, none⟩) (Kd.S_far (p := ⟨gb102, 3, none⟩) (Kd.S_far (p := ⟨gb102, 2, none⟩) (Kd.S_far (p := ⟨gb102, 1, none⟩) (Kd.S_far (p := ⟨gb102, 0, none⟩) (Kd.S_far (p := ⟨gb103, 4, none⟩) (Kd.S_types (Kd.S_types HO111.out BK103.out (by decide)) BK102.out (by decide)) (fun _ hk => hk.1.2) (.slice Ao17 t112.length co17)) (fun _ hk => hk.2) (.int .i64 t104)) (fun _ hk => hk.2) (.int .i64 t105)) (fun _ hk => hk.2) (.slice Ao13 t106.length co13)) (fun _ hk => hk.2) (.slice Ao14 t109.length co14)) (fun _ hk => hk.2) (.slice Ao17 t112.length co17)) (fun _ hk => trivial)), rz (Kd.bO_ (Kd.R_far (p := ⟨gb102, 4, none⟩) (Kd.R_far (p := ⟨gb102, 3, none⟩) (Kd.R_far (p := ⟨gb102, 2, none⟩) (Kd.R_far (p := ⟨gb102, 1, none⟩) (Kd.R_far (p := ⟨gb102, 0, none⟩) (Kd.R_far (p := ⟨gb103, 4, none⟩) (Kd.de_ (Kd.de_ HO114.out BK103.out (by decide)) BK102.out (by decide)) (fun _ hk => hk.1.2) (.slice Ao17 t112.length co17)) (fun _ hk => hk.2) (.int .i64 t104)) (fun _ hk => hk.2) (.int .i64 t105)) (fun _ hk => hk.2) (.slice Ao13 t106.length co13)) (fun _ hk => hk.2) (.slice Ao14 t109.length co14)) (fun _ hk => hk.2) (.slice Ao17 t112.length co17)) (fun _ hk => trivial)), bq⟩
def ck_.f (a0_0 : Int) (a0_1 : Int) (a0_2 : Int) (a0_3 : Int) (a0_4 : Int) : Option (Int × Int × Int × Int × Int) := some (a0_0, a0_1, a0_2, a0_3, a0_4)
set_option maxHeartbeats 8000000 in
set_option maxRecDepth 100000 in
theorem ck_.calls (a0_0 : Int) (a0_1 : Int) (a0_2 : Int) (a0_3 : Int) (a0_4 : Int) (r1 : Int) (r2 : Int) (r3 : Int) (r4 : Int) (r5 : Int) (w : World) (h : ck_.f a0_0 a0_1 a0_2 a0_3 a0_4 = some (r1, r2, r3, r4, r5)) :
  Calls Try.prog 7 #[.agg #[.int .i64 a0_0, .int .i64 a0_1, .int .i64 a0_2, .int .i64 a0_3, .int .i64 a0_4]] w fun e w' => e = .returned (.agg #[.int .i64 r1, .int .i64 r2, .int .i64 r3, .int .i64 r4, .int .i64 r5]) ∧ Below w.heap.size w w' := by
 have hu30 := Try.underlying30
 have hu42 := Try.underlying42
 have HB := Aside0.mk (Below.refl w.heap.size w)
 have H : (some (a0_0, a0_1, a0_2, a0_3, a0_4)) = some (r1, r2, r3, r4, r5) := h
 clear h
 simp only [Option.some.injEq, Prod.mk.injEq] at H
 obtain ⟨rfl, rfl, rfl, rfl, rfl⟩ := H
 go_enter Try.func7, Try.ntmps7
 go_wp2_with (first | ((with_reducible refine al_ (N := 1) rfl ?_); refine ak_ ?hg (N := 1) ?hd (cs := #[.int .i64 a0_0, .int .i64 a0_1, .int .i64 a0_2, .int .i64 a0_3, .int .i64 a0_4]) (t := 30) ?hr ?_; (case hd => rfl); (case hg => rfl); (case hr => (go_simp; try rfl)); intro gb101 hg w2 hbox hb; have BK101 := Aside0.mk (hbox); have GW101 := Aside0.mk ((by rw [hg]; exact (ae_ (bz HB.out)) : w.heap.size ≤ gb101)); have GE101 := GW101; replace HB := Aside0.mk (ad_ (bz HB.out) hb); clear hb hbox hg) | ((with_reducible refine al_ (N := 2) rfl ?_); refine ak_ ?hg (N := 2) ?hd (cs := #[.int .i64 0, .int .i64 0, .int .i64 0, .int .i64 0, .int .i64 0]) (t := 42) ?hr ?_; (case hd => rfl); (case hg => rfl); (case hr => (go_simp; try rfl)); intro gb102 hg w3 hbox hb; have BK102 := Aside0.mk (hbox); have GW102 := Aside0.mk ((by rw [hg]; exact (ae_ (bq)) : w.heap.size ≤ gb102)); have GE102 := GW102; replace HB := Aside0.mk (ad_ (bq) hb); have NB101_102 := Aside0.mk ((by rw [hg]; exact Nat.ne_of_lt (aj_ (kz BK101.out)) : gb101 ≠ gb102)); have NB102_101 := Aside0.mk ((by rw [hg]; exact Nat.ne_of_gt (aj_ (kz BK101.out)) : gb102 ≠ gb101)); replace BK101 := Aside0.mk (aa_ (kz BK101.out) hb); clear hb hbox hg) | ((with_reducible refine al_ (N := 3) rfl ?_); refine ak_ ?hg (N := 3) ?hd (cs := #[.int .i64 0, .int .i64 0, .int .i64 0, .int .i64 0, .int .i64 0]) (t := 42) ?hr ?_; (case hd => rfl); (case hg => rfl); (case hr => (go_simp; try rfl)); intro gb103 hg w4 hbox hb; have BK103 := Aside0.mk (hbox); have GW103 := Aside0.mk ((by rw [hg]; exact (ae_ (bq)) : w.heap.size ≤ gb103)); have GE103 := GW103; replace HB := Aside0.mk (ad_ (bq) hb); have NB101_103 := Aside0.mk ((by rw [hg]; exact Nat.ne_of_lt (aj_ (kz BK101.out)) : gb101 ≠ gb103)); have NB103_101 := Aside0.mk ((by rw [hg]; exact Nat.ne_of_gt (aj_ (kz BK101.out)) : gb103 ≠ gb101)); replace BK101 := Aside0.mk (aa_ (kz BK101.out) hb); have NB102_103 := Aside0.mk ((by rw [hg]; exact Nat.ne_of_lt (aj_ (kz BK102.out)) : gb102 ≠ gb103)); have NB103_102 := Aside0.mk ((by rw [hg]; exact Nat.ne_of_gt (aj_ (kz BK102.out)) : gb103 ≠ gb102)); replace BK102 := Aside0.mk (aa_ (kz BK102.out) hb); clear hb hbox hg; have hnb5 := NB101_102.out; have hnc5 := NB102_101.out; have hnb6 := NB101_103.out; have hnc6 := NB103_101.out; obtain ⟨hcz7_0, hcz7_1, hcz7_2, hcz7_3, hcz7_4⟩ := cz5_ BK101.out; obtain ⟨hfz7_0, hfz7_1, hfz7_2, hfz7_3, hfz7_4⟩ := fz5_ BK101.out; have hnb8 := NB103_102.out; have hnc8 := NB102_103.out; obtain ⟨hcz9_0, hcz9_1, hcz9_2, hcz9_3, hcz9_4⟩ := cz5_ BK103.out; obtain ⟨hfz9_0, hfz9_1, hfz9_2, hfz9_3, hfz9_4⟩ := fz5_ BK103.out; obtain ⟨hcz10_0, hcz10_1, hcz10_2, hcz10_3, hcz10_4⟩ := cz5_ BK102.out; obtain ⟨hfz10_0, hfz10_1, hfz10_2, hfz10_3, hfz10_4⟩ := fz5_ BK102.out))
 refine bodyPost_ret (results_cell_row rfl _ _ gb102 42 #[.int .i64 a0_0, .int .i64 a0_1, .int .i64 a0_2, .int .i64 a0_3, .int .i64 a0_4] (0, 0) _ rfl (by exact kj5_4 (kj5_3 (kj5_2 (kj5_1 (kj5_0 (kf (kf (kf (kf (kf (kz BK102.out) NB102_103.out) NB102_103.out) NB102_103.out) NB102_103.out) NB102_103.out)))))) Try.underlying42 rfl (by kernel_rfl)) rfl ?_
 exact ⟨by first | rfl | (simp [*, ah_, ai_] <;> rfl), bq⟩
def am_.f (a0 : Int) (a1 : Int) (a2 : Int) : Option (Bool) := if a0 ≥ a1 then (some (decide (a0 ≤ a2))) else (some false)
set_option maxHeartbeats 8000000 in
set_option maxRecDepth 100000 in
theorem am_.calls (a0 : Int) (a1 : Int) (a2 : Int) (r : Bool) (w : World) (h : am_.f a0 a1 a2 = some r) :
  Calls Try.prog 39 #[.int .i64 a0, .int .i64 a1, .int .i64 a2] w fun e w' => e = .returned (.bool r) ∧ as_ w w' := by
 have H : (if a0 ≥ a1 then (some (decide (a0 ≤ a2))) else (some false)) = some r := h
 clear h
 by_cases c4 : a0 ≥ a1
 rotate_left
 ·rw [if_neg c4] at H
  have c4b0 : decide (a1 ≤ a0) = false := decide_eq_false c4
  clear c4
  obtain rfl := Option.some.inj H
  go_enter Try.func39, Try.ntmps39
  go_wp2
  go_ret
  exact ⟨by first | rfl | (simp; done) | (simp [*]; done), by repeat (first | exact as_.refl _ | apply as_.step)⟩
 rw [if_pos c4] at H
 have c4b0 : decide (a1 ≤ a0) = true := decide_eq_true c4
 clear c4
 obtain rfl := Option.some.inj H
 go_enter Try.func39, Try.ntmps39
 go_wp2
 go_ret
 exact ⟨by first | rfl | (simp; done) | (simp [*]; done), by repeat (first | exact as_.refl _ | apply as_.step)⟩
def aQ_.l0 : Nat → List (S81) → List (S81) → List Int → Int → Int → Option ((List (S81)) × Bool)
 | 0, _, _, _, _, _ => none
 | k + 1, x0, x6, x10, x11, x12 => if x12 < x11 then (if 0 ≤ x12 then (if x12 < (x10.length : Int) then ((am_.f (rd x10 x12) 0 (wrap64 ((x0.length : Int) - 1))).bind fun t105 => (if t105 = true then (if 0 ≤ (rd x10 x12) then (if (rd x10 x12) < (x0.length : Int) then (if x6.length < 8796093022208 then (aQ_.l0 k x0 (x6 ++ [(⟨(ab_ x0 (rd x10 x12)).f0, (ab_ x0 (rd x10 x12)).f1⟩ : S81)]) x10 x11 (wrap64 (x12 + 1))) else (none)) else (none)) else (none)) else (some (([] : List (S81)), false)))) else (none)) else (none)) else (some (x6, true))
def aQ_.f (k : Nat) (l0 : List (S81)) (l1 : List Int) : Option ((List (S81)) × Bool) := aQ_.l0 k l0 (([] : List (S81))) l1 (l1.length : Int) 0
set_option maxHeartbeats 8000000 in
set_option maxRecDepth 100000 in
theorem aQ_.calls (k : Nat) (A0 : Option Addr) (c0 : Nat) (l0 : List (S81)) (A1 : Option Addr) (c1 : Nat) (l1 : List Int) (r1 : List (S81)) (r2 : Bool) (w : World) (hr0 : Kd.C k81 w A0 l0.length l0) (hc0 : l0.length ≤ c0) (hr1 : Kd.C (Kd.int .i64) w A1 l1.length l1) (hc1 : l1.length ≤ c1) (h : aQ_.f k l0 l1 = some (r1, r2)) :
  Calls Try.prog 40 #[.slice A0 l0.length c0, .slice A1 l1.length c1] w fun e w' => ∃ v0_ : Value, e = .returned (.tuple #[v0_, .bool r2]) ∧ Kd.R k81 81 w' w.heap.size (fun _ => True) v0_ r1 ∧ Below w.heap.size w w' := by
 have hu81 := Try.underlying81
 have HR0 := Aside0.mk hr0
 have HC0 := Aside0.mk hc0
 clear hr0 hc0
 have HR1 := Aside0.mk hr1
 have HC1 := Aside0.mk hc1
 clear hr1 hc1
 have HB := Aside0.mk (Below.refl w.heap.size w)
 have H : (aQ_.l0 k l0 (([] : List (S81))) l1 (l1.length : Int) 0) = some (r1, r2) := h
 clear h
 obtain ⟨y101, hy101⟩ : ∃ y_ : List (S81), y_ = (([] : List (S81))) := ⟨_, rfl⟩
 replace H : (aQ_.l0 k l0 y101 l1 (l1.length : Int) 0) = some (r1, r2) := by first | (rw [hy101]; with_reducible exact H) | (have H2_ := (Option.bind_some _ _).symm.trans H; rw [hy101]; with_reducible exact H2_) | (have H2_ := (Option.bind_some _ _).symm.trans H; with_reducible exact H2_) | with_reducible exact H | (rw [hy101]; exact H) | exact H
 have Ny101 := Aside0.mk hy101
 clear hy101
 have H' := Aside0.mk H
 clear H
 go_enter Try.func40, Try.ntmps40
 go_wp2_with (first | ((with_reducible refine al_ (N := 9) rfl ?_); refine Kd.R_lit k81 _ 81 ?hg (N := 9) ?hd (xs := ([] : List (S81))) (inner := []) (ok := fun _ => True) (okp := fun _ => True) ?hr ?hp (fun _ hk => hk) trivial (Below.refl _ _) (Nat.le_refl _) (by simp) ?_; (case hd => rfl); (case hg => rfl); (case hr => (go_simp; try rfl)); (case hp => exact (Reps.none _ _)); intro v102 w3 ho4 hb hg_ hnew_; clear hg_ hnew_; (first | rw [← Ny101.out] at ho4 | (simp only [Int.reduceToNat] at ho4; rw [← Ny101.out] at ho4)); have HO103 := Aside0.mk (Kd.bq_ ho4 (ae_ (bz HB.out))); replace HB := Aside0.mk (ad_ (bz HB.out) hb); clear hb ho4))
 (try simp only [Act.put, lsa_, ls0_, ls1_])
 go_loopg [6, 12] k (fun kq v6 v12 w' => ∃ (x6_1 : List (S81)) (x12_1 : Int), v12 = .int .i64 x12_1 ∧ Aside0 (aQ_.l0 kq l0 x6_1 l1 (l1.length : Int) x12_1 = some (r1, r2)) ∧ Aside0 (kq ≤ k) ∧ Aside0 (Kd.R k81 81 w' w.heap.size (fun _ => True) v6 x6_1) ∧ Aside0 (Below w.heap.size w w'))
 case atStart => exact ⟨(y101), (0), (by first | rfl | (simp; done) | (simp [*]; done)), H', ⟨Nat.le_refl _⟩, ⟨rz HO103.out⟩, ⟨bz HB.out⟩⟩
 case round =>
  clear H'
  obtain ⟨x6_1, x12_1, rfl, HA, HK1, HO_6, HB⟩ := hrel
  cases gk with
  | zero => exact absurd HA.out (by simp [aQ_.l0])
  | succ k1 =>
   have H := HA.out
   clear HA
   simp only [aQ_.l0] at H
   by_cases c5 : x12_1 < (l1.length : Int)
   rotate_left
   ·rw [if_neg c5] at H
    have c5b0 : decide (x12_1 < (l1.length : Int)) = false := decide_eq_false c5
    clear c5
    simp only [Option.some.injEq, Prod.mk.injEq] at H
    obtain ⟨rfl, rfl⟩ := H
    go_wp2
    go_ret2
    exact ⟨_, by first | rfl | (simp [*, ah_, ai_] <;> rfl), rz HO_6.out, bz HB.out⟩
   rw [if_pos c5] at H
   have c5b0 : decide (x12_1 < (l1.length : Int)) = true := decide_eq_true c5
   clear c5
   by_cases c6 : 0 ≤ x12_1
   rotate_left
   ·rw [if_neg c6] at H
    exact absurd H (by simp)
   rw [if_pos c6] at H
   have c6b0 : decide (0 ≤ x12_1) = true := decide_eq_true c6
   clear c6
   by_cases c7 : x12_1 < (l1.length : Int)
   rotate_left
   ·rw [if_neg c7] at H
    exact absurd H (by simp)
   rw [if_pos c7] at H
   have c7b0 : decide (x12_1 < (l1.length : Int)) = true := decide_eq_true c7
   clear c7
   replace H := Option.bind_eq_some_iff.mp H
   obtain ⟨t105, A80, H⟩ := H
   (try dsimp only at H)
   have A8 := Aside0.mk A80
   clear A80
   have HC9 := Aside0.mk H
   clear H
   have p104 : 0 ≤ (x12_1 : Int) := of_decide_eq_true (by assumption)
   have q104 : x12_1 < (l1.length : Int) := of_decide_eq_true (by assumption)
   obtain ⟨ad104, e104, hx104_0⟩ := Kd.at_int HR1.out x12_1 p104 q104
   cases e104
   replace hx104_0 := bu_ HB.out hx104_0
   replace p104 := eq_true p104
   replace q104 := eq_true q104
   go_upto_if 21 with (first | ((with_reducible refine an_ (f := 39) rfl ?_); refine aU_ (some 20) rfl rfl Try.func39 (by kernel_rfl) rfl #[.int .i64 (rd l1 x12_1), .int .i64 0, .int .i64 (wrap64 ((l0.length : Int) - 1))] rfl (by first | rfl | (simp only [lma_, lmc_, lmn_]; first | done | rfl)) ?_; (with_reducible refine (am_.calls (rd l1 x12_1) 0 (wrap64 ((l0.length : Int) - 1)) t105 _ A8.out).mono ?_); rintro e w' ⟨rfl, ⟨nd, rfl⟩⟩; refine ⟨_, rfl, ?_⟩; (try (rw [cR_ wr]; generalize hq_ : World.drewN wr _ = wr; replace HO_6 := Aside0.mk (rqR hq_ HO_6.out); replace HB := Aside0.mk (rqH hq_ HB.out); clear hq_))))
   (try simp only [Act.put, lsa_, ls0_, ls1_])
   have H := HC9.out
   clear HC9
   by_cases c10 : t105 = true
   rotate_left
   ·replace c10 := Bool.eq_false_iff.mpr c10
    subst c10
    have H1 : (some (([] : List (S81)), false)) = some (r1, r2) := by rw [if_neg (show ¬ (false = true) by decide)] at H; exact H
    clear H
    have H := H1
    clear H1
    simp only [Option.some.injEq, Prod.mk.injEq] at H
    obtain ⟨rfl, rfl⟩ := H
    go_wp2
    go_ret2
    exact ⟨_, by first | rfl | (simp [*, ah_, ai_] <;> rfl), by first | exact Kd.R_nil _ _ _ _ _ | exact Kd.N_nil _ _ _ _ _ | exact Kd.V_nil _ _ _ _ _ | exact Kd.Q_nil _ _ _ _ _ | exact Kd.S_nil _ _ _ _ _, bz HB.out⟩
   subst c10
   have H1 : (if 0 ≤ (rd l1 x12_1) then (if (rd l1 x12_1) < (l0.length : Int) then (if x6_1.length < 8796093022208 then (aQ_.l0 k1 l0 (x6_1 ++ [(⟨(ab_ l0 (rd l1 x12_1)).f0, (ab_ l0 (rd l1 x12_1)).f1⟩ : S81)]) l1 (l1.length : Int) (wrap64 (x12_1 + 1))) else (none)) else (none)) else (none)) = some (r1, r2) := by rw [if_pos rfl] at H; exact H
   clear H
   have H := H1
   clear H1
   by_cases c11 : 0 ≤ (rd l1 x12_1)
   rotate_left
   ·rw [if_neg c11] at H
    exact absurd H (by simp)
   rw [if_pos c11] at H
   have c11b0 : decide (0 ≤ (rd l1 x12_1)) = true := decide_eq_true c11
   clear c11
   (first | rw [c11b0] | (simp only [i64_w, i32_w]; rw [c11b0]) | (simp only [c11b1, Bool.not_true, Bool.not_false]) | (simp only [c11b0, Bool.not_true, Bool.not_false]) | skip)
   by_cases c12 : (rd l1 x12_1) < (l0.length : Int)
   rotate_left
   ·rw [if_neg c12] at H
    exact absurd H (by simp)
   rw [if_pos c12] at H
   have c12b0 : decide ((rd l1 x12_1) < (l0.length : Int)) = true := decide_eq_true c12
   clear c12
   by_cases c13 : x6_1.length < 8796093022208
   rotate_left
   ·rw [if_neg c13] at H
    exact absurd H (by simp)
   rw [if_pos c13] at H
   have LMc13 := Aside0.mk c13
   clear c13
   obtain ⟨y107, hy107⟩ : ∃ y_ : List (S81), y_ = (x6_1 ++ [(⟨(ab_ l0 (rd l1 x12_1)).f0, (ab_ l0 (rd l1 x12_1)).f1⟩ : S81)]) := ⟨_, rfl⟩
   replace H : (aQ_.l0 k1 l0 y107 l1 (l1.length : Int) (wrap64 (x12_1 + 1))) = some (r1, r2) := by first | (rw [hy107]; with_reducible exact H) | (have H2_ := (Option.bind_some _ _).symm.trans H; rw [hy107]; with_reducible exact H2_) | (have H2_ := (Option.bind_some _ _).symm.trans H; with_reducible exact H2_) | with_reducible exact H | (rw [hy107]; exact H) | exact H
   have Ny107 := Aside0.mk hy107
   clear hy107
   have H' := Aside0.mk H
   clear H
   have p106 : 0 ≤ ((rd l1 x12_1) : Int) := of_decide_eq_true (by assumption)
   have q106 : (rd l1 x12_1) < (l0.length : Int) := of_decide_eq_true (by assumption)
   obtain ⟨ad106, e106, hx106_0, hx106_1⟩ := bX_ HR0.out (rd l1 x12_1) p106 q106
   cases e106
   replace hx106_0 := bu_ HB.out hx106_0
   replace hx106_1 := bu_ HB.out hx106_1
   replace p106 := eq_true p106
   replace q106 := eq_true q106
   go_wp2_with (first | ((with_reducible refine gate_builtin (b := .append) (xs := #[.tmp 22, .tmp 27]) rfl ?_); at_builtin; refine Kd.R_append k81 (w0 := w) w.heap.size rfl (.tmp 22) (.tmp 27) 34 81 (.agg #[(.int .i64 0), (.int .i64 0)]) 16 rfl Try.underlying34 info81 rfl (by decide) (by omega) u6 x6_1 (⟨(ab_ l0 (rd l1 x12_1)).f0, (ab_ l0 (rd l1 x12_1)).f1⟩ : S81) [.int .i64 ((ab_ l0 (rd l1 x12_1)).f0), .int .i64 ((ab_ l0 (rd l1 x12_1)).f1)] (fun _ => True) (fun _ => False) rfl rfl ?aP (fun _ hk => hk.elim) ?aF ?aO ?aB ?aS ?aL ?_; (case aP => exact k81_mkM _ _ _ (⟨(ab_ l0 (rd l1 x12_1)).f0, (ab_ l0 (rd l1 x12_1)).f1⟩ : S81)); (case aB => exact (bz HB.out)); (case aF => exact (fun _ _ => trivial)); (case aO => exact (rz HO_6.out)); (case aS => exact (ae_ (bz HB.out))); (case aL => have := LMc13.out; omega); intro v108 w14 ho hb hg hat; rw [← Ny107.out] at ho; replace HB := Aside0.mk (hb); have HO109 := Aside0.mk (ho); clear HO_6; clear ho hb hg hat))
   go_roundg k1
   case measure => have := HK1.out; omega
   case rel => exact ⟨(y107), (wrap64 (x12_1 + 1)), (by first | rfl | (simp; done) | (simp [*]; done)), H', ⟨by have := HK1.out; omega⟩, ⟨rz HO109.out⟩, ⟨bz HB.out⟩⟩
end Go.Proofs.Ytpjhnchfhghlcaa.Q
namespace Go.Proofs.Ytpjhnchfhghlcaa.Q
open Go.RowKit Go.Proofs.YtpjhnchfhghlcaaW.PrintWords Go.Proofs.YtpjhnchfhghlcaaW.PrintLast Go.Proofs.YtpjhnchfhghlcaaW.PrintMore
attribute [local go_sem] aB_ aE_ aN_ aO_ ax_ aw_ aD_ aC_
attribute [local go_sem high] eqA81
def bw_.l0 : Nat → List (S81) → Int → Int → Int → Int → Option (Int)
 | 0, _, _, _, _, _ => none
 | k + 1, x0, x7, x8, x102000, x102001 => if x8 < x7 then (if 0 ≤ x8 then (if x8 < (x0.length : Int) then (if (x102000 == ((ab_ x0 x8).f0) && (x102001 == ((ab_ x0 x8).f1))) = true then (some x8) else (bw_.l0 k x0 x7 (wrap64 (x8 + 1)) x102000 x102001)) else (none)) else (none)) else (some (-1))
def bw_.f (k : Nat) (l0 : List (S81)) (a1_0 : Int) (a1_1 : Int) : Option (Int) := bw_.l0 k l0 (l0.length : Int) 0 a1_0 a1_1
set_option maxHeartbeats 8000000 in
set_option maxRecDepth 100000 in
theorem bw_.calls (k : Nat) (A0 : Option Addr) (c0 : Nat) (l0 : List (S81)) (a1_0 : Int) (a1_1 : Int) (r : Int) (w : World) (hr0 : Kd.C k81 w A0 l0.length l0) (hc0 : l0.length ≤ c0) (h : bw_.f k l0 a1_0 a1_1 = some r) :
  Calls Try.prog 66 #[.slice A0 l0.length c0, .agg #[.int .i64 a1_0, .int .i64 a1_1]] w fun e w' => e = .returned (.int .i64 r) ∧ Below w.heap.size w w' := by
 have hu81 := Try.underlying81
 have HR0 := Aside0.mk hr0
 have HC0 := Aside0.mk hc0
 clear hr0 hc0
 have HB := Aside0.mk (Below.refl w.heap.size w)
 have H : (bw_.l0 k l0 (l0.length : Int) 0 a1_0 a1_1) = some r := h
 clear h
 have H' := Aside0.mk H
 clear H
 go_enter Try.func66, Try.ntmps66
 go_wp2_with (first | ((with_reducible refine al_ (N := 3) rfl ?_); refine ak_ ?hg (N := 3) ?hd (cs := #[.int .i64 a1_0, .int .i64 a1_1]) (t := 81) ?hr ?_; (case hd => rfl); (case hg => rfl); (case hr => (go_simp; try rfl)); intro gb101 hg w3 hbox hb; have BK101 := Aside0.mk (hbox); have GW101 := Aside0.mk ((by rw [hg]; exact (ae_ (bz HB.out)) : w.heap.size ≤ gb101)); have GE101 := GW101; replace HB := Aside0.mk (ad_ (bz HB.out) hb); clear hb hbox hg))
 repeat (go_quiet (first | ((with_reducible refine al_ (N := 3) rfl ?_); refine ak_ ?hg (N := 3) ?hd (cs := #[.int .i64 a1_0, .int .i64 a1_1]) (t := 81) ?hr ?_; (case hd => rfl); (case hg => rfl); (case hr => (go_simp; try rfl)); intro gb101 hg w3 hbox hb; have BK101 := Aside0.mk (hbox); have GW101 := Aside0.mk ((by rw [hg]; exact (ae_ (bz HB.out)) : w.heap.size ≤ gb101)); have GE101 := GW101; replace HB := Aside0.mk (ad_ (bz HB.out) hb); clear hb hbox hg)); try go_wp2_with (first | ((with_reducible refine al_ (N := 3) rfl ?_); refine ak_ ?hg (N := 3) ?hd (cs := #[.int .i64 a1_0, .int .i64 a1_1]) (t := 81) ?hr ?_; (case hd => rfl); (case hg => rfl); (case hr => (go_simp; try rfl)); intro gb101 hg w3 hbox hb; have BK101 := Aside0.mk (hbox); have GW101 := Aside0.mk ((by rw [hg]; exact (ae_ (bz HB.out)) : w.heap.size ≤ gb101)); have GE101 := GW101; replace HB := Aside0.mk (ad_ (bz HB.out) hb); clear hb hbox hg)))
 (try simp only [Act.put, lsa_, ls0_, ls1_])
 go_loopg [8] k (fun kq v8 w' => ∃ (x8_1 : Int), v8 = .int .i64 x8_1 ∧ Aside0 (bw_.l0 kq l0 (l0.length : Int) x8_1 a1_0 a1_1 = some r) ∧ Aside0 (kq ≤ k) ∧ Aside0 (w'.heap[gb101]? = some (.cells #[.int .i64 a1_0, .int .i64 a1_1] 81 (0, 0))) ∧ Aside0 (Below w.heap.size w w'))
 case atStart => exact ⟨(0), (by first | rfl | (simp; done) | (simp [*]; done)), H', ⟨Nat.le_refl _⟩, ⟨by (with_reducible repeat (first | refine aL_ ?_ _ | refine av_ ?_ | refine aM_ ?_ _)); exact BK101.out⟩, ⟨bq⟩⟩
 case round =>
  clear H'
  obtain ⟨x8_1, rfl, HA, HK1, BK101, HB⟩ := hrel
  cases gk with
  | zero => exact absurd HA.out (by simp [bw_.l0])
  | succ k1 =>
   have H := HA.out
   clear HA
   simp only [bw_.l0] at H
   by_cases c4 : x8_1 < (l0.length : Int)
   rotate_left
   ·rw [if_neg c4] at H
    have c4b0 : decide (x8_1 < (l0.length : Int)) = false := decide_eq_false c4
    clear c4
    obtain rfl := Option.some.inj H
    go_wp2
    repeat (go_quiet (fail); try go_wp2)
    go_ret
    exact ⟨by first | rfl | (simp [*, ah_, ai_] <;> rfl), bq⟩
   rw [if_pos c4] at H
   have c4b0 : decide (x8_1 < (l0.length : Int)) = true := decide_eq_true c4
   clear c4
   by_cases c5 : 0 ≤ x8_1
   rotate_left
   ·rw [if_neg c5] at H
    exact absurd H (by simp)
   rw [if_pos c5] at H
   have c5b0 : decide (0 ≤ x8_1) = true := decide_eq_true c5
   clear c5
   by_cases c6 : x8_1 < (l0.length : Int)
   rotate_left
   ·rw [if_neg c6] at H
    exact absurd H (by simp)
   rw [if_pos c6] at H
   have c6b0 : decide (x8_1 < (l0.length : Int)) = true := decide_eq_true c6
   clear c6
   by_cases c7 : (a1_0 == ((ab_ l0 x8_1).f0) && (a1_1 == ((ab_ l0 x8_1).f1))) = true
   rotate_left
   ·rw [if_neg c7] at H
    have c7b0 : (a1_0 == ((ab_ l0 x8_1).f0) && (a1_1 == ((ab_ l0 x8_1).f1))) = false := by simpa using c7
    (try (have c7b1 : decide (a1_0 = ((ab_ l0 x8_1).f0) && (a1_1 == ((ab_ l0 x8_1).f1))) = false := by simpa using c7))
    (try (have c7b2 : (a1_0 == ((ab_ l0 x8_1).f0) && (a1_1 == ((ab_ l0 x8_1).f1))) = false := by simpa using c7))
    (try (have c7b3 : ¬ (a1_0 = ((ab_ l0 x8_1).f0) && (a1_1 == ((ab_ l0 x8_1).f1))) := by simpa using c7))
    clear c7
    have H' := Aside0.mk H
    clear H
    obtain ⟨hcz9_0, hcz9_1⟩ := cz2_ BK101.out
    obtain ⟨hfz9_0, hfz9_1⟩ := fz2_ BK101.out
    have p102 : 0 ≤ (x8_1 : Int) := of_decide_eq_true (by assumption)
    have q102 : x8_1 < (l0.length : Int) := of_decide_eq_true (by assumption)
    obtain ⟨ad102, e102, hx102_0, hx102_1⟩ := bX_ HR0.out x8_1 p102 q102
    cases e102
    replace hx102_0 := bu_ HB.out hx102_0
    replace hx102_1 := bu_ HB.out hx102_1
    replace p102 := eq_true p102
    replace q102 := eq_true q102
    go_wp2
    repeat (go_quiet (fail); try go_wp2)
    go_roundg k1
    case measure => have := HK1.out; omega
    case rel => exact ⟨(wrap64 (x8_1 + 1)), (by first | rfl | (simp; done) | (simp [*]; done)), H', ⟨by have := HK1.out; omega⟩, ⟨by (with_reducible repeat (first | refine aL_ ?_ _ | refine av_ ?_ | refine aM_ ?_ _)); exact BK101.out⟩, ⟨bq⟩⟩
   rw [if_pos c7] at H
   have c7b0 : (a1_0 == ((ab_ l0 x8_1).f0) && (a1_1 == ((ab_ l0 x8_1).f1))) = true := c7
   (try (have c7b1 : decide (a1_0 = ((ab_ l0 x8_1).f0) && (a1_1 == ((ab_ l0 x8_1).f1))) = true := by simpa using c7))
   (try (have c7b2 : (a1_0 == ((ab_ l0 x8_1).f0) && (a1_1 == ((ab_ l0 x8_1).f1))) = true := by simpa using c7))
   clear c7
   obtain rfl := Option.some.inj H
   obtain ⟨hcz8_0, hcz8_1⟩ := cz2_ BK101.out
   obtain ⟨hfz8_0, hfz8_1⟩ := fz2_ BK101.out
   have p102 : 0 ≤ (x8_1 : Int) := of_decide_eq_true (by assumption)
   have q102 : x8_1 < (l0.length : Int) := of_decide_eq_true (by assumption)
   obtain ⟨ad102, e102, hx102_0, hx102_1⟩ := bX_ HR0.out x8_1 p102 q102
   cases e102
   replace hx102_0 := bu_ HB.out hx102_0
   replace hx102_1 := bu_ HB.out hx102_1
   replace p102 := eq_true p102
   replace q102 := eq_true q102
   go_wp2
   repeat (go_quiet (fail); try go_wp2)
   go_ret
   exact ⟨by first | rfl | (simp [*, ah_, ai_] <;> rfl), bq⟩
end Go.Proofs.Ytpjhnchfhghlcaa.Q
namespace Go.Proofs.Ytpjhnchfhghlcaa.Q
open Go.RowKit Go.Proofs.YtpjhnchfhghlcaaW.PrintWords Go.Proofs.YtpjhnchfhghlcaaW.PrintLast Go.Proofs.YtpjhnchfhghlcaaW.PrintMore
attribute [local go_sem] aB_ aE_ aN_ aO_ ax_ aw_ aD_ aC_
def ci_.f (k : Nat) (l0 : List (S81)) (a1_0 : Int) (a1_1 : Int) : Option (Bool) := (bw_.f k l0 a1_0 a1_1).bind fun t102 => (some (decide (t102 ≥ 0)))
set_option maxHeartbeats 8000000 in
set_option maxRecDepth 100000 in
theorem ci_.calls (k : Nat) (A0 : Option Addr) (c0 : Nat) (l0 : List (S81)) (a1_0 : Int) (a1_1 : Int) (r : Bool) (w : World) (hr0 : Kd.C k81 w A0 l0.length l0) (hc0 : l0.length ≤ c0) (h : ci_.f k l0 a1_0 a1_1 = some r) :
  Calls Try.prog 52 #[.slice A0 l0.length c0, .agg #[.int .i64 a1_0, .int .i64 a1_1]] w fun e w' => e = .returned (.bool r) ∧ Below w.heap.size w w' := by
 have hu81 := Try.underlying81
 have HR0 := Aside0.mk hr0
 have HC0 := Aside0.mk hc0
 clear hr0 hc0
 have HB := Aside0.mk (Below.refl w.heap.size w)
 have H : ((bw_.f k l0 a1_0 a1_1).bind fun t102 => (some (decide (t102 ≥ 0)))) = some r := h
 clear h
 replace H := Option.bind_eq_some_iff.mp H
 obtain ⟨t102, A30, H⟩ := H
 (try dsimp only at H)
 have A3 := Aside0.mk A30
 clear A30
 obtain rfl := Option.some.inj H
 go_enter Try.func52, Try.ntmps52
 go_wp2_with (first | ((with_reducible refine al_ (N := 3) rfl ?_); refine ak_ ?hg (N := 3) ?hd (cs := #[.int .i64 a1_0, .int .i64 a1_1]) (t := 81) ?hr ?_; (case hd => rfl); (case hg => rfl); (case hr => (go_simp; try rfl)); intro gb101 hg w4 hbox hb; have BK101 := Aside0.mk (hbox); have GW101 := Aside0.mk ((by rw [hg]; exact (ae_ (bz HB.out)) : w.heap.size ≤ gb101)); have GE101 := GW101; replace HB := Aside0.mk (ad_ (bz HB.out) hb); clear hb hbox hg; obtain ⟨hcz5_0, hcz5_1⟩ := cz2_ BK101.out; obtain ⟨hfz5_0, hfz5_1⟩ := fz2_ BK101.out) | ((with_reducible refine an_ (f := 66) rfl ?_); refine aU_ (some 7) rfl rfl Try.func66 (by kernel_rfl) rfl #[.slice A0 l0.length c0, .agg #[.int .i64 a1_0, .int .i64 a1_1]] rfl (by first | rfl | (simp only [lma_, lmc_, lmn_]; first | done | rfl)) ?_; (with_reducible refine (bw_.calls k _ _ l0 a1_0 a1_1 t102 _ ?side1 ?side2 A3.out).mono ?_); (case side1 => exact cz (Kd.aF_ HR0.out HB.out)); (case side2 => exact HC0.out); rintro e w6 ⟨rfl, hb⟩; refine ⟨_, rfl, ?_⟩; replace BK101 := Aside0.mk (aa_ (kz BK101.out) hb); replace HB := Aside0.mk (ad_ (bq) hb); (try clear hb)))
 go_ret
 exact ⟨by first | rfl | (simp [*, ah_, ai_] <;> rfl), bq⟩
mutual
def aI_.j0 : Nat → ByteArray → Bool → Option (Bool)
 | 0, _, _ => none
 | k + 1, x0, x21 => if x21 = true then (some false) else (aI_.l0 k x0 0)
def aI_.l0 : Nat → ByteArray → Int → Option (Bool)
 | 0, _, _ => none
 | k + 1, x0, x3 => if x3 < (x0.size : Int) then (if 0 ≤ x3 then (if (bt x0 x3) < 97 then (if (bt x0 x3) < 48 then (some false) else (if (bt x0 x3) > 57 then (some false) else (aI_.l0 k x0 (wrap64 (x3 + 1))))) else (if (bt x0 x3) > 122 then (if (bt x0 x3) < 48 then (some false) else (if (bt x0 x3) > 57 then (some false) else (aI_.l0 k x0 (wrap64 (x3 + 1))))) else (aI_.l0 k x0 (wrap64 (x3 + 1))))) else (none)) else (some true)
end
def aI_.f (k : Nat) (a0 : ByteArray) : Option (Bool) := if (a0.size : Int) < 1 then (aI_.j0 k a0 true) else (if (a0.size : Int) > 10 then (aI_.j0 k a0 true) else (if 0 < (a0.size : Int) then (if (bt a0 0) < 97 then (aI_.j0 k a0 true) else (aI_.j0 k a0 (decide ((bt a0 0) > 122)))) else (none)))
set_option maxHeartbeats 8000000 in
set_option maxRecDepth 100000 in
theorem aI_.calls (k : Nat) (a0 : ByteArray) (r : Bool) (w : World) (h : aI_.f k a0 = some r) :
  Calls Try.prog 53 #[.string a0] w fun e w' => e = .returned (.bool r) ∧ as_ w w' := by
 have H : (if (a0.size : Int) < 1 then (aI_.j0 k a0 true) else (if (a0.size : Int) > 10 then (aI_.j0 k a0 true) else (if 0 < (a0.size : Int) then (if (bt a0 0) < 97 then (aI_.j0 k a0 true) else (aI_.j0 k a0 (decide ((bt a0 0) > 122)))) else (none)))) = some r := h
 clear h
 have HC2 := Aside0.mk H
 clear H
 go_enter Try.func53, Try.ntmps53
 go_upto_region 1 with (fail)
 go_cut [21] (fun v21 wc => ∃ (kq : Nat) (x21_1 : Bool), v21 = .bool x21_1 ∧ Aside0 (aI_.j0 kq a0 x21_1 = some r) ∧ Aside0 (kq ≤ k) ∧ as_ w wc)
 case first =>
  have H := HC2.out
  clear HC2
  by_cases c3 : (a0.size : Int) < 1
  rotate_left
  ·rw [if_neg c3] at H
   have c3b0 : decide ((a0.size : Int) < 1) = false := decide_eq_false c3
   have c3b1 : decide (a0.size < 1) = false := decide_eq_false (by omega)
   clear c3
   (first | rw [c3b0] | (simp only [i64_w, i32_w]; rw [c3b0]) | (simp only [c3b1, Bool.not_true, Bool.not_false]) | (simp only [c3b0, Bool.not_true, Bool.not_false]) | skip)
   by_cases c4 : (a0.size : Int) > 10
   rotate_left
   ·rw [if_neg c4] at H
    have c4b0 : decide (10 < (a0.size : Int)) = false := decide_eq_false c4
    have c4b1 : decide (10 < a0.size) = false := decide_eq_false (by omega)
    clear c4
    by_cases c5 : 0 < (a0.size : Int)
    rotate_left
    ·rw [if_neg c5] at H
     exact absurd H (by simp)
    rw [if_pos c5] at H
    have c5b0 : decide (0 < (a0.size : Int)) = true := decide_eq_true c5
    have c5b1 : decide (0 < a0.size) = true := decide_eq_true (by omega)
    clear c5
    by_cases c7 : (bt a0 0) < 97
    rotate_left
    ·rw [if_neg c7] at H
     have c7b0 : decide ((bt a0 0) < 97) = false := decide_eq_false c7
     clear c7
     have H' := Aside0.mk H
     clear H
     have p6 : 0 ≤ (0 : Int) := (by omega)
     have q6 : 0 < a0.size := (by have : (0 : Int) < (a0.size : Int) := of_decide_eq_true (by assumption); omega)
     have hx6 : ∀ h : 0 < a0.size, ((a0[0]'h).toNat : Int) = bt a0 0 := bt_at a0 0
     clear p6
     have qi6 : (0 < (a0.size : Int)) = True := eq_true (of_decide_eq_true (by assumption))
     replace q6 := eq_true q6
     have p8 : 0 ≤ (0 : Int) := (by omega)
     have q8 : 0 < a0.size := (by have : (0 : Int) < (a0.size : Int) := of_decide_eq_true (by assumption); omega)
     have hx8 : ∀ h : 0 < a0.size, ((a0[0]'h).toNat : Int) = bt a0 0 := bt_at a0 0
     clear p8
     have qi8 : (0 < (a0.size : Int)) = True := eq_true (of_decide_eq_true (by assumption))
     replace q8 := eq_true q8
     go_wp2
     go_meet
     case rel => exact ⟨_, (decide ((bt a0 0) > 122)), (by first | rfl | (simp; done) | (simp [*]; done)), H', ⟨by first | omega | exact Nat.le_refl _⟩, by repeat (first | exact as_.refl _ | apply as_.step)⟩
    rw [if_pos c7] at H
    have c7b0 : decide ((bt a0 0) < 97) = true := decide_eq_true c7
    clear c7
    have H' := Aside0.mk H
    clear H
    have p6 : 0 ≤ (0 : Int) := (by omega)
    have q6 : 0 < a0.size := (by have : (0 : Int) < (a0.size : Int) := of_decide_eq_true (by assumption); omega)
    have hx6 : ∀ h : 0 < a0.size, ((a0[0]'h).toNat : Int) = bt a0 0 := bt_at a0 0
    clear p6
    have qi6 : (0 < (a0.size : Int)) = True := eq_true (of_decide_eq_true (by assumption))
    replace q6 := eq_true q6
    go_wp2
    go_meet
    case rel => exact ⟨_, (true), (by first | rfl | (simp; done) | (simp [*]; done)), H', ⟨by first | omega | exact Nat.le_refl _⟩, by repeat (first | exact as_.refl _ | apply as_.step)⟩
   rw [if_pos c4] at H
   have c4b0 : decide (10 < (a0.size : Int)) = true := decide_eq_true c4
   have c4b1 : decide (10 < a0.size) = true := decide_eq_true (by omega)
   clear c4
   have H' := Aside0.mk H
   clear H
   go_wp2
   go_meet
   case rel => exact ⟨_, (true), (by first | rfl | (simp; done) | (simp [*]; done)), H', ⟨by first | omega | exact Nat.le_refl _⟩, by repeat (first | exact as_.refl _ | apply as_.step)⟩
  rw [if_pos c3] at H
  have c3b0 : decide ((a0.size : Int) < 1) = true := decide_eq_true c3
  have c3b1 : decide (a0.size < 1) = true := decide_eq_true (by omega)
  clear c3
  (first | rw [c3b0] | (simp only [i64_w, i32_w]; rw [c3b0]) | (simp only [c3b1, Bool.not_true, Bool.not_false]) | (simp only [c3b0, Bool.not_true, Bool.not_false]) | skip)
  have H' := Aside0.mk H
  clear H
  go_wp2
  go_meet
  case rel => exact ⟨_, (true), (by first | rfl | (simp; done) | (simp [*]; done)), H', ⟨by first | omega | exact Nat.le_refl _⟩, by repeat (first | exact as_.refl _ | apply as_.step)⟩
 case rest =>
  clear HC2
  obtain ⟨kq, x21_1, rfl, HA, HJ1, ⟨mc1, rfl⟩⟩ := hcut
  cases kq with
  | zero => exact absurd HA.out (by simp [aI_.j0])
  | succ kj1 =>
   have H := HA.out
   clear HA
   simp only [aI_.j0] at H
   by_cases c9 : x21_1 = true
   rotate_left
   ·replace c9 := Bool.eq_false_iff.mpr c9
    subst c9
    have H1 : (aI_.l0 kj1 a0 0) = some r := by rw [if_neg (show ¬ (false = true) by decide)] at H; exact H
    clear H
    have H := H1
    clear H1
    have H' := Aside0.mk H
    clear H
    go_wp2
    (try simp only [Act.put, lsa_, ls0_, ls1_])
    go_loopg [3] kj1 (fun kq v3 w' => ∃ (x3_2 : Int), v3 = .int .i64 x3_2 ∧ Aside0 (aI_.l0 kq a0 x3_2 = some r) ∧ Aside0 (kq ≤ kj1) ∧ as_ w w')
    case atStart => exact ⟨(0), (by first | rfl | (simp; done) | (simp [*]; done)), H', ⟨Nat.le_refl _⟩, by repeat (first | exact as_.refl _ | apply as_.step)⟩
    case round =>
     clear H'
     obtain ⟨x3_2, rfl, HA, HK2, ⟨m2, rfl⟩⟩ := hrel
     cases gk with
     | zero => exact absurd HA.out (by simp [aI_.l0])
     | succ k2 =>
      have H := HA.out
      clear HA
      simp only [aI_.l0] at H
      by_cases c10 : x3_2 < (a0.size : Int)
      rotate_left
      ·rw [if_neg c10] at H
       have c10b0 : decide (x3_2 < (a0.size : Int)) = false := decide_eq_false c10
       clear c10
       obtain rfl := Option.some.inj H
       go_wp2
       go_ret
       exact ⟨by first | rfl | (simp; done) | (simp [*]; done), by repeat (first | exact as_.refl _ | apply as_.step)⟩
      rw [if_pos c10] at H
      have c10b0 : decide (x3_2 < (a0.size : Int)) = true := decide_eq_true c10
      clear c10
      by_cases c11 : 0 ≤ x3_2
      rotate_left
      ·rw [if_neg c11] at H
       exact absurd H (by simp)
      rw [if_pos c11] at H
      have c11b0 : decide (0 ≤ x3_2) = true := decide_eq_true c11
      clear c11
      by_cases c13 : (bt a0 x3_2) < 97
      rotate_left
      ·rw [if_neg c13] at H
       have c13b0 : decide ((bt a0 x3_2) < 97) = false := decide_eq_false c13
       clear c13
       by_cases c19 : (bt a0 x3_2) > 122
       rotate_left
       ·rw [if_neg c19] at H
        have c19b0 : decide (122 < (bt a0 x3_2)) = false := decide_eq_false c19
        clear c19
        have H' := Aside0.mk H
        clear H
        have p12 : 0 ≤ (x3_2 : Int) := of_decide_eq_true (by assumption)
        have q12 : x3_2 < (a0.size : Int) := of_decide_eq_true (by assumption)
        have hx12 := bt_at a0 x3_2
        replace p12 := eq_true p12
        replace q12 := eq_true q12
        have p18 : 0 ≤ (x3_2 : Int) := of_decide_eq_true (by assumption)
        have q18 : x3_2 < (a0.size : Int) := of_decide_eq_true (by assumption)
        have hx18 := bt_at a0 x3_2
        replace p18 := eq_true p18
        replace q18 := eq_true q18
        go_wp2
        go_roundg k2
        case measure => have := HJ1.out; have := HK2.out; omega
        case rel => exact ⟨(wrap64 (x3_2 + 1)), (by first | rfl | (simp; done) | (simp [*]; done)), H', ⟨by have := HJ1.out; have := HK2.out; omega⟩, by repeat (first | exact as_.refl _ | apply as_.step)⟩
       rw [if_pos c19] at H
       have c19b0 : decide (122 < (bt a0 x3_2)) = true := decide_eq_true c19
       clear c19
       by_cases c21 : (bt a0 x3_2) < 48
       rotate_left
       ·rw [if_neg c21] at H
        have c21b0 : decide ((bt a0 x3_2) < 48) = false := decide_eq_false c21
        clear c21
        by_cases c23 : (bt a0 x3_2) > 57
        rotate_left
        ·rw [if_neg c23] at H
         have c23b0 : decide (57 < (bt a0 x3_2)) = false := decide_eq_false c23
         clear c23
         have H' := Aside0.mk H
         clear H
         have p12 : 0 ≤ (x3_2 : Int) := of_decide_eq_true (by assumption)
         have q12 : x3_2 < (a0.size : Int) := of_decide_eq_true (by assumption)
         have hx12 := bt_at a0 x3_2
         replace p12 := eq_true p12
         replace q12 := eq_true q12
         have p18 : 0 ≤ (x3_2 : Int) := of_decide_eq_true (by assumption)
         have q18 : x3_2 < (a0.size : Int) := of_decide_eq_true (by assumption)
         have hx18 := bt_at a0 x3_2
         replace p18 := eq_true p18
         replace q18 := eq_true q18
         have p20 : 0 ≤ (x3_2 : Int) := of_decide_eq_true (by assumption)
         have q20 : x3_2 < (a0.size : Int) := of_decide_eq_true (by assumption)
         have hx20 := bt_at a0 x3_2
         replace p20 := eq_true p20
         replace q20 := eq_true q20
         have p22 : 0 ≤ (x3_2 : Int) := of_decide_eq_true (by assumption)
         have q22 : x3_2 < (a0.size : Int) := of_decide_eq_true (by assumption)
         have hx22 := bt_at a0 x3_2
         replace p22 := eq_true p22
         replace q22 := eq_true q22
         go_wp2
         go_roundg k2
         case measure => have := HJ1.out; have := HK2.out; omega
         case rel => exact ⟨(wrap64 (x3_2 + 1)), (by first | rfl | (simp; done) | (simp [*]; done)), H', ⟨by have := HJ1.out; have := HK2.out; omega⟩, by repeat (first | exact as_.refl _ | apply as_.step)⟩
        rw [if_pos c23] at H
        have c23b0 : decide (57 < (bt a0 x3_2)) = true := decide_eq_true c23
        clear c23
        obtain rfl := Option.some.inj H
        have p12 : 0 ≤ (x3_2 : Int) := of_decide_eq_true (by assumption)
        have q12 : x3_2 < (a0.size : Int) := of_decide_eq_true (by assumption)
        have hx12 := bt_at a0 x3_2
        replace p12 := eq_true p12
        replace q12 := eq_true q12
        have p18 : 0 ≤ (x3_2 : Int) := of_decide_eq_true (by assumption)
        have q18 : x3_2 < (a0.size : Int) := of_decide_eq_true (by assumption)
        have hx18 := bt_at a0 x3_2
        replace p18 := eq_true p18
        replace q18 := eq_true q18
        have p20 : 0 ≤ (x3_2 : Int) := of_decide_eq_true (by assumption)
        have q20 : x3_2 < (a0.size : Int) := of_decide_eq_true (by assumption)
        have hx20 := bt_at a0 x3_2
        replace p20 := eq_true p20
        replace q20 := eq_true q20
        have p22 : 0 ≤ (x3_2 : Int) := of_decide_eq_true (by assumption)
        have q22 : x3_2 < (a0.size : Int) := of_decide_eq_true (by assumption)
        have hx22 := bt_at a0 x3_2
        replace p22 := eq_true p22
        replace q22 := eq_true q22
        go_wp2
        go_ret
        exact ⟨by first | rfl | (simp; done) | (simp [*]; done), by repeat (first | exact as_.refl _ | apply as_.step)⟩
       rw [if_pos c21] at H
       have c21b0 : decide ((bt a0 x3_2) < 48) = true := decide_eq_true c21
       clear c21
       obtain rfl := Option.some.inj H
       have p12 : 0 ≤ (x3_2 : Int) := of_decide_eq_true (by assumption)
       have q12 : x3_2 < (a0.size : Int) := of_decide_eq_true (by assumption)
       have hx12 := bt_at a0 x3_2
       replace p12 := eq_true p12
       replace q12 := eq_true q12
       have p18 : 0 ≤ (x3_2 : Int) := of_decide_eq_true (by assumption)
       have q18 : x3_2 < (a0.size : Int) := of_decide_eq_true (by assumption)
       have hx18 := bt_at a0 x3_2
       replace p18 := eq_true p18
       replace q18 := eq_true q18
       have p20 : 0 ≤ (x3_2 : Int) := of_decide_eq_true (by assumption)
       have q20 : x3_2 < (a0.size : Int) := of_decide_eq_true (by assumption)
       have hx20 := bt_at a0 x3_2
       replace p20 := eq_true p20
       replace q20 := eq_true q20
       go_wp2
       go_ret
       exact ⟨by first | rfl | (simp; done) | (simp [*]; done), by repeat (first | exact as_.refl _ | apply as_.step)⟩
      rw [if_pos c13] at H
      have c13b0 : decide ((bt a0 x3_2) < 97) = true := decide_eq_true c13
      clear c13
      by_cases c15 : (bt a0 x3_2) < 48
      rotate_left
      ·rw [if_neg c15] at H
       have c15b0 : decide ((bt a0 x3_2) < 48) = false := decide_eq_false c15
       clear c15
       by_cases c17 : (bt a0 x3_2) > 57
       rotate_left
       ·rw [if_neg c17] at H
        have c17b0 : decide (57 < (bt a0 x3_2)) = false := decide_eq_false c17
        clear c17
        have H' := Aside0.mk H
        clear H
        have p12 : 0 ≤ (x3_2 : Int) := of_decide_eq_true (by assumption)
        have q12 : x3_2 < (a0.size : Int) := of_decide_eq_true (by assumption)
        have hx12 := bt_at a0 x3_2
        replace p12 := eq_true p12
        replace q12 := eq_true q12
        have p14 : 0 ≤ (x3_2 : Int) := of_decide_eq_true (by assumption)
        have q14 : x3_2 < (a0.size : Int) := of_decide_eq_true (by assumption)
        have hx14 := bt_at a0 x3_2
        replace p14 := eq_true p14
        replace q14 := eq_true q14
        have p16 : 0 ≤ (x3_2 : Int) := of_decide_eq_true (by assumption)
        have q16 : x3_2 < (a0.size : Int) := of_decide_eq_true (by assumption)
        have hx16 := bt_at a0 x3_2
        replace p16 := eq_true p16
        replace q16 := eq_true q16
        go_wp2
        go_roundg k2
        case measure => have := HJ1.out; have := HK2.out; omega
        case rel => exact ⟨(wrap64 (x3_2 + 1)), (by first | rfl | (simp; done) | (simp [*]; done)), H', ⟨by have := HJ1.out; have := HK2.out; omega⟩, by repeat (first | exact as_.refl _ | apply as_.step)⟩
       rw [if_pos c17] at H
       have c17b0 : decide (57 < (bt a0 x3_2)) = true := decide_eq_true c17
       clear c17
       obtain rfl := Option.some.inj H
       have p12 : 0 ≤ (x3_2 : Int) := of_decide_eq_true (by assumption)
       have q12 : x3_2 < (a0.size : Int) := of_decide_eq_true (by assumption)
       have hx12 := bt_at a0 x3_2
       replace p12 := eq_true p12
       replace q12 := eq_true q12
       have p14 : 0 ≤ (x3_2 : Int) := of_decide_eq_true (by assumption)
       have q14 : x3_2 < (a0.size : Int) := of_decide_eq_true (by assumption)
       have hx14 := bt_at a0 x3_2
       replace p14 := eq_true p14
       replace q14 := eq_true q14
       have p16 : 0 ≤ (x3_2 : Int) := of_decide_eq_true (by assumption)
       have q16 : x3_2 < (a0.size : Int) := of_decide_eq_true (by assumption)
       have hx16 := bt_at a0 x3_2
       replace p16 := eq_true p16
       replace q16 := eq_true q16
       go_wp2
       go_ret
       exact ⟨by first | rfl | (simp; done) | (simp [*]; done), by repeat (first | exact as_.refl _ | apply as_.step)⟩
      rw [if_pos c15] at H
      have c15b0 : decide ((bt a0 x3_2) < 48) = true := decide_eq_true c15
      clear c15
      obtain rfl := Option.some.inj H
      have p12 : 0 ≤ (x3_2 : Int) := of_decide_eq_true (by assumption)
      have q12 : x3_2 < (a0.size : Int) := of_decide_eq_true (by assumption)
      have hx12 := bt_at a0 x3_2
      replace p12 := eq_true p12
      replace q12 := eq_true q12
      have p14 : 0 ≤ (x3_2 : Int) := of_decide_eq_true (by assumption)
      have q14 : x3_2 < (a0.size : Int) := of_decide_eq_true (by assumption)
      have hx14 := bt_at a0 x3_2
      replace p14 := eq_true p14
      replace q14 := eq_true q14
      go_wp2
      go_ret
      exact ⟨by first | rfl | (simp; done) | (simp [*]; done), by repeat (first | exact as_.refl _ | apply as_.step)⟩
   subst c9
   have H1 : (some false) = some r := by rw [if_pos rfl] at H; exact H
   clear H
   have H := H1
   clear H1
   obtain rfl := Option.some.inj H
   go_wp2
   go_ret
   exact ⟨by first | rfl | (simp; done) | (simp [*]; done), by repeat (first | exact as_.refl _ | apply as_.step)⟩
def br_.l0 : Nat → List (S81) → Int → List (S81) → Int → Int → Option (Int)
 | 0, _, _, _, _, _ => none
 | k + 1, x0, x3, x7, x8, x9 => if x9 < x8 then (if 0 ≤ x9 then (if x9 < (x7.length : Int) then (if (x0.length : Int) = 0 then (none) else (if 0 ≤ (Int.tmod (wrap64 (x9 + 1)) (x0.length : Int)) then (if (Int.tmod (wrap64 (x9 + 1)) (x0.length : Int)) < (x0.length : Int) then (br_.l0 k x0 (wrap64 (x3 + (wrap64 ((wrap64 (((ab_ x7 x9).f0) * ((ab_ x0 (Int.tmod (wrap64 (x9 + 1)) (x0.length : Int))).f1))) - (wrap64 (((ab_ x7 x9).f1) * ((ab_ x0 (Int.tmod (wrap64 (x9 + 1)) (x0.length : Int))).f0))))))) x7 x8 (wrap64 (x9 + 1))) else (none)) else (none))) else (none)) else (none)) else (some x3)
def br_.f (k : Nat) (l0 : List (S81)) : Option (Int) := br_.l0 k l0 0 l0 (l0.length : Int) 0
set_option maxHeartbeats 8000000 in
set_option maxRecDepth 100000 in
theorem br_.calls (k : Nat) (A0 : Option Addr) (c0 : Nat) (l0 : List (S81)) (r : Int) (w : World) (hr0 : Kd.C k81 w A0 l0.length l0) (hc0 : l0.length ≤ c0) (h : br_.f k l0 = some r) :
  Calls Try.prog 19 #[.slice A0 l0.length c0] w fun e w' => e = .returned (.int .i64 r) ∧ Below w.heap.size w w' := by
 have hu81 := Try.underlying81
 have HR0 := Aside0.mk hr0
 have HC0 := Aside0.mk hc0
 clear hr0 hc0
 have HB := Aside0.mk (Below.refl w.heap.size w)
 have H : (br_.l0 k l0 0 l0 (l0.length : Int) 0) = some r := h
 clear h
 have H' := Aside0.mk H
 clear H
 go_enter Try.func19, Try.ntmps19
 go_wp2
 (try simp only [Act.put, lsa_, ls0_, ls1_])
 go_loopg [3, 9] k (fun kq v3 v9 w' => ∃ (x3_1 : Int) (x9_1 : Int), v3 = .int .i64 x3_1 ∧ v9 = .int .i64 x9_1 ∧ Aside0 (br_.l0 kq l0 x3_1 l0 (l0.length : Int) x9_1 = some r) ∧ Aside0 (kq ≤ k) ∧ Aside0 (Below w.heap.size w w'))
 case atStart => exact ⟨(0), (0), (by first | rfl | (simp; done) | (simp [*]; done)), (by first | rfl | (simp; done) | (simp [*]; done)), H', ⟨Nat.le_refl _⟩, ⟨bz HB.out⟩⟩
 case round =>
  clear H'
  obtain ⟨x3_1, x9_1, rfl, rfl, HA, HK1, HB⟩ := hrel
  cases gk with
  | zero => exact absurd HA.out (by simp [br_.l0])
  | succ k1 =>
   have H := HA.out
   clear HA
   simp only [br_.l0] at H
   by_cases c2 : x9_1 < (l0.length : Int)
   rotate_left
   ·rw [if_neg c2] at H
    have c2b0 : decide (x9_1 < (l0.length : Int)) = false := decide_eq_false c2
    clear c2
    obtain rfl := Option.some.inj H
    go_wp2
    go_ret
    exact ⟨by first | rfl | (simp [*, ah_, ai_] <;> rfl), bz HB.out⟩
   rw [if_pos c2] at H
   have c2b0 : decide (x9_1 < (l0.length : Int)) = true := decide_eq_true c2
   clear c2
   by_cases c3 : 0 ≤ x9_1
   rotate_left
   ·rw [if_neg c3] at H
    exact absurd H (by simp)
   rw [if_pos c3] at H
   have c3b0 : decide (0 ≤ x9_1) = true := decide_eq_true c3
   clear c3
   by_cases c4 : x9_1 < (l0.length : Int)
   rotate_left
   ·rw [if_neg c4] at H
    exact absurd H (by simp)
   rw [if_pos c4] at H
   have c4b0 : decide (x9_1 < (l0.length : Int)) = true := decide_eq_true c4
   clear c4
   by_cases c5 : (l0.length : Int) = 0
   rotate_left
   ·rw [if_neg c5] at H
    have c5b0 : ((l0.length : Int) == 0) = false := beq_eq_false_iff_ne.mpr c5
    have c5b1 : ((l0.length : Int) != 0) = true := bne_iff_ne.mpr c5
    have c5b2 : ¬ (l0 = []) := fun h_ => c5 (by rw [h_]; rfl)
    obtain ⟨ji6, hji6⟩ : ∃ j_ : Int, (Int.tmod (wrap64 (x9_1 + 1)) (l0.length : Int)) = j_ := ⟨_, rfl⟩
    replace H : (if 0 ≤ (ji6) then (if (ji6) < (l0.length : Int) then (br_.l0 k1 l0 (wrap64 (x3_1 + (wrap64 ((wrap64 (((ab_ l0 x9_1).f0) * ((ab_ l0 (ji6)).f1))) - (wrap64 (((ab_ l0 x9_1).f1) * ((ab_ l0 (ji6)).f0))))))) l0 (l0.length : Int) (wrap64 (x9_1 + 1))) else (none)) else (none)) = some r := by first | (rw [hji6] at H; exact H) | (simp only [hji6] at H ⊢; exact H)
    by_cases c7 : 0 ≤ (ji6)
    rotate_left
    ·rw [if_neg c7] at H
     exact absurd H (by simp)
    rw [if_pos c7] at H
    have c7b0 : decide (0 ≤ (ji6)) = true := decide_eq_true c7
    clear c7
    by_cases c8 : (ji6) < (l0.length : Int)
    rotate_left
    ·rw [if_neg c8] at H
     exact absurd H (by simp)
    rw [if_pos c8] at H
    have c8b0 : decide ((ji6) < (l0.length : Int)) = true := decide_eq_true c8
    clear c8
    have H' := Aside0.mk H
    clear H
    have p101 : 0 ≤ (x9_1 : Int) := of_decide_eq_true (by assumption)
    have q101 : x9_1 < (l0.length : Int) := of_decide_eq_true (by assumption)
    obtain ⟨ad101, e101, hx101_0, hx101_1⟩ := bX_ HR0.out x9_1 p101 q101
    cases e101
    replace hx101_0 := bu_ HB.out hx101_0
    replace hx101_1 := bu_ HB.out hx101_1
    replace p101 := eq_true p101
    replace q101 := eq_true q101
    go_wp2_with (first | ((with_reducible refine al_ (N := 5) rfl ?_); refine ak_ ?hg (N := 5) ?hd (cs := #[.int .i64 0, .int .i64 0]) (t := 81) ?hr ?_; (case hd => rfl); (case hg => rfl); (case hr => (go_simp; try rfl)); intro gb102 hg w9 hbox hb; have BK102 := Aside0.mk (hbox); have GW102 := Aside0.mk ((by rw [hg]; exact (ae_ (bz HB.out)) : w.heap.size ≤ gb102)); have GE102 := GW102; replace HB := Aside0.mk (ad_ (bz HB.out) hb); clear hb hbox hg; obtain ⟨hcz10_0, hcz10_1⟩ := cz2_ BK102.out; obtain ⟨hfz10_0, hfz10_1⟩ := fz2_ BK102.out; have p103 : 0 ≤ ((ji6) : Int) := of_decide_eq_true (by assumption); have q103 : (ji6) < (l0.length : Int) := of_decide_eq_true (by assumption); obtain ⟨ad103, e103, hx103_0, hx103_1⟩ := bX_ HR0.out (ji6) p103 q103; obtain rfl : ad101 = ad103 := (by injection e103); have hn103_0 : ad101.block ≠ gb102 := Nat.ne_of_lt (Nat.lt_of_lt_of_le (by have := bl_ _ _ hx103_0; first | rwa [add_block] at this | exact this) GW102.out); have hn103_1 : ad101.block ≠ gb102 := Nat.ne_of_lt (Nat.lt_of_lt_of_le (by have := bl_ _ _ hx103_0; first | rwa [add_block] at this | exact this) GW102.out); replace hx103_0 := bu_ HB.out hx103_0; replace hx103_1 := bu_ HB.out hx103_1; replace hx103_0 := (cell_far (p := ⟨gb102, 0, none⟩) (by first | (rw [add_block]; exact hn103_0) | (show (Addr.add _ _).block ≠ _; rw [add_block]; exact hn103_0) | exact hn103_0) (.int .i64 ((ab_ l0 x9_1).f0))).trans hx103_0; replace hx103_1 := (cell_far (p := ⟨gb102, 0, none⟩) (by first | (rw [add_block]; exact hn103_0) | (show (Addr.add _ _).block ≠ _; rw [add_block]; exact hn103_0) | exact hn103_0) (.int .i64 ((ab_ l0 x9_1).f0))).trans hx103_1; replace hx103_0 := (cell_far (p := ⟨gb102, 1, none⟩) (by first | (rw [add_block]; exact hn103_1) | (show (Addr.add _ _).block ≠ _; rw [add_block]; exact hn103_1) | exact hn103_1) (.int .i64 ((ab_ l0 x9_1).f1))).trans hx103_0; replace hx103_1 := (cell_far (p := ⟨gb102, 1, none⟩) (by first | (rw [add_block]; exact hn103_1) | (show (Addr.add _ _).block ≠ _; rw [add_block]; exact hn103_1) | exact hn103_1) (.int .i64 ((ab_ l0 x9_1).f1))).trans hx103_1; clear hn103_0; clear hn103_1; replace p103 := eq_true p103; replace q103 := eq_true q103) | ((with_reducible refine al_ (N := 6) rfl ?_); refine ak_ ?hg (N := 6) ?hd (cs := #[.int .i64 0, .int .i64 0]) (t := 81) ?hr ?_; (case hd => rfl); (case hg => rfl); (case hr => (go_simp; try rfl)); intro gb104 hg w11 hbox hb; have BK104 := Aside0.mk (hbox); have GW104 := Aside0.mk ((by rw [hg]; exact (ae_ (bq)) : w.heap.size ≤ gb104)); have GE104 := GW104; replace HB := Aside0.mk (ad_ (bq) hb); have NB102_104 := Aside0.mk ((by rw [hg]; exact Nat.ne_of_lt (aj_ (g := gb102) (o := .cells #[.int .i64 ((ab_ l0 x9_1).f0), .int .i64 ((ab_ l0 x9_1).f1)] 81 (0, 0)) (by exact kj2_1 (kj2_0 (kz BK102.out)))) : gb102 ≠ gb104)); have NB104_102 := Aside0.mk ((by rw [hg]; exact Nat.ne_of_gt (aj_ (g := gb102) (o := .cells #[.int .i64 ((ab_ l0 x9_1).f0), .int .i64 ((ab_ l0 x9_1).f1)] 81 (0, 0)) (by exact kj2_1 (kj2_0 (kz BK102.out)))) : gb104 ≠ gb102)); replace BK102 := Aside0.mk (aa_ (g := gb102) (o := .cells #[.int .i64 ((ab_ l0 x9_1).f0), .int .i64 ((ab_ l0 x9_1).f1)] 81 (0, 0)) (by exact kj2_1 (kj2_0 (kz BK102.out))) hb); clear hb hbox hg; have hnb12 := NB104_102.out; have hnc12 := NB102_104.out; obtain ⟨hcz13_0, hcz13_1⟩ := cz2_ BK104.out; obtain ⟨hfz13_0, hfz13_1⟩ := fz2_ BK104.out; obtain ⟨hcz14_0, hcz14_1⟩ := cz2_ BK102.out; obtain ⟨hfz14_0, hfz14_1⟩ := fz2_ BK102.out))
    go_roundg k1
    case measure => have := HK1.out; omega
    case rel => exact ⟨(wrap64 (x3_1 + (wrap64 ((wrap64 (((ab_ l0 x9_1).f0) * ((ab_ l0 (ji6)).f1))) - (wrap64 (((ab_ l0 x9_1).f1) * ((ab_ l0 (ji6)).f0))))))), (wrap64 (x9_1 + 1)), (by first | rfl | (simp; done) | (simp only [← hji6] <;> (first | rfl | simp)) | (simp [*]; done)), (by first | rfl | (simp; done) | (simp [*]; done)), H', ⟨by have := HK1.out; omega⟩, ⟨bq⟩⟩
   rw [if_pos c5] at H
   exact absurd H (by simp)
def cC_.f (a0_0 : Int) (a0_1 : Int) : Option (Bool) := (am_.f a0_0 0 20000).bind fun t102 => (if t102 = true then ((am_.f a0_1 0 20000).bind fun t103 => (some t103)) else (some false))
set_option maxHeartbeats 8000000 in
set_option maxRecDepth 100000 in
theorem cC_.calls (a0_0 : Int) (a0_1 : Int) (r : Bool) (w : World) (h : cC_.f a0_0 a0_1 = some r) :
  Calls Try.prog 80 #[.agg #[.int .i64 a0_0, .int .i64 a0_1]] w fun e w' => e = .returned (.bool r) ∧ Below w.heap.size w w' := by
 have hu81 := Try.underlying81
 have HB := Aside0.mk (Below.refl w.heap.size w)
 have H : ((am_.f a0_0 0 20000).bind fun t102 => (if t102 = true then ((am_.f a0_1 0 20000).bind fun t103 => (some t103)) else (some false))) = some r := h
 clear h
 replace H := Option.bind_eq_some_iff.mp H
 obtain ⟨t102, A20, H⟩ := H
 (try dsimp only at H)
 have A2 := Aside0.mk A20
 clear A20
 by_cases c3 : t102 = true
 rotate_left
 ·replace c3 := Bool.eq_false_iff.mpr c3
  subst c3
  have H1 : (some false) = some r := by rw [if_neg (show ¬ (false = true) by decide)] at H; exact H
  clear H
  have H := H1
  clear H1
  obtain rfl := Option.some.inj H
  go_enter Try.func80, Try.ntmps80
  go_wp2_with (first | ((with_reducible refine al_ (N := 1) rfl ?_); refine ak_ ?hg (N := 1) ?hd (cs := #[.int .i64 a0_0, .int .i64 a0_1]) (t := 81) ?hr ?_; (case hd => rfl); (case hg => rfl); (case hr => (go_simp; try rfl)); intro gb101 hg w7 hbox hb; have BK101 := Aside0.mk (hbox); have GW101 := Aside0.mk ((by rw [hg]; exact (ae_ (bz HB.out)) : w.heap.size ≤ gb101)); have GE101 := GW101; replace HB := Aside0.mk (ad_ (bz HB.out) hb); clear hb hbox hg; obtain ⟨hcz8_0, hcz8_1⟩ := cz2_ BK101.out; obtain ⟨hfz8_0, hfz8_1⟩ := fz2_ BK101.out) | ((with_reducible refine an_ (f := 39) rfl ?_); refine aU_ (some 5) rfl rfl Try.func39 (by kernel_rfl) rfl #[.int .i64 a0_0, .int .i64 0, .int .i64 20000] rfl (by first | rfl | (simp only [lma_, lmc_, lmn_]; first | done | rfl)) ?_; (with_reducible refine (am_.calls a0_0 0 20000 false _ A2.out).mono ?_); rintro e w' ⟨rfl, ⟨nd, rfl⟩⟩; refine ⟨_, rfl, ?_⟩))
  go_ret
  exact ⟨by first | rfl | (simp [*, ah_, ai_] <;> rfl), bq⟩
 subst c3
 have H1 : ((am_.f a0_1 0 20000).bind fun t103 => (some t103)) = some r := by rw [if_pos rfl] at H; exact H
 clear H
 have H := H1
 clear H1
 replace H := Option.bind_eq_some_iff.mp H
 obtain ⟨t103, A40, H⟩ := H
 (try dsimp only at H)
 have A4 := Aside0.mk A40
 clear A40
 obtain rfl := Option.some.inj H
 go_enter Try.func80, Try.ntmps80
 go_wp2_with (first | ((with_reducible refine al_ (N := 1) rfl ?_); refine ak_ ?hg (N := 1) ?hd (cs := #[.int .i64 a0_0, .int .i64 a0_1]) (t := 81) ?hr ?_; (case hd => rfl); (case hg => rfl); (case hr => (go_simp; try rfl)); intro gb101 hg w5 hbox hb; have BK101 := Aside0.mk (hbox); have GW101 := Aside0.mk ((by rw [hg]; exact (ae_ (bz HB.out)) : w.heap.size ≤ gb101)); have GE101 := GW101; replace HB := Aside0.mk (ad_ (bz HB.out) hb); clear hb hbox hg; obtain ⟨hcz6_0, hcz6_1⟩ := cz2_ BK101.out; obtain ⟨hfz6_0, hfz6_1⟩ := fz2_ BK101.out) | ((with_reducible refine an_ (f := 39) rfl ?_); refine aU_ (some 5) rfl rfl Try.func39 (by kernel_rfl) rfl #[.int .i64 a0_0, .int .i64 0, .int .i64 20000] rfl (by first | rfl | (simp only [lma_, lmc_, lmn_]; first | done | rfl)) ?_; (with_reducible refine (am_.calls a0_0 0 20000 true _ A2.out).mono ?_); rintro e w' ⟨rfl, ⟨nd, rfl⟩⟩; refine ⟨_, rfl, ?_⟩) | (go_at_call 39; (with_reducible refine (am_.calls a0_1 0 20000 t103 _ A4.out).mono ?_); rintro e w' ⟨rfl, ⟨nd, rfl⟩⟩))
 go_ret
 exact ⟨by first | rfl | (simp [*, ah_, ai_] <;> rfl), bq⟩
def bb_.l0 : Nat → List (S81) → Int → Int → Option (Bool)
 | 0, _, _, _ => none
 | k + 1, x5, x6, x7 => if x7 < x6 then (if 0 ≤ x7 then (if x7 < (x5.length : Int) then ((cC_.f ((ab_ x5 x7).f0) ((ab_ x5 x7).f1)).bind fun t103 => (if t103 = true then (bb_.l0 k x5 x6 (wrap64 (x7 + 1))) else (some false))) else (none)) else (none)) else (some true)
def bb_.f (k : Nat) (l0 : List (S81)) : Option (Bool) := bb_.l0 k l0 (l0.length : Int) 0
set_option maxHeartbeats 8000000 in
set_option maxRecDepth 100000 in
theorem bb_.calls (k : Nat) (A0 : Option Addr) (c0 : Nat) (l0 : List (S81)) (r : Bool) (w : World) (hr0 : Kd.C k81 w A0 l0.length l0) (hc0 : l0.length ≤ c0) (h : bb_.f k l0 = some r) :
  Calls Try.prog 67 #[.slice A0 l0.length c0] w fun e w' => e = .returned (.bool r) ∧ Below w.heap.size w w' := by
 have hu81 := Try.underlying81
 have HR0 := Aside0.mk hr0
 have HC0 := Aside0.mk hc0
 clear hr0 hc0
 have HB := Aside0.mk (Below.refl w.heap.size w)
 have H : (bb_.l0 k l0 (l0.length : Int) 0) = some r := h
 clear h
 have H' := Aside0.mk H
 clear H
 go_enter Try.func67, Try.ntmps67
 go_wp2
 (try simp only [Act.put, lsa_, ls0_, ls1_])
 go_loopg [7] k (fun kq v7 w' => ∃ (x7_1 : Int), v7 = .int .i64 x7_1 ∧ Aside0 (bb_.l0 kq l0 (l0.length : Int) x7_1 = some r) ∧ Aside0 (kq ≤ k) ∧ Aside0 (Below w.heap.size w w'))
 case atStart => exact ⟨(0), (by first | rfl | (simp; done) | (simp [*]; done)), H', ⟨Nat.le_refl _⟩, ⟨bz HB.out⟩⟩
 case round =>
  clear H'
  obtain ⟨x7_1, rfl, HA, HK1, HB⟩ := hrel
  cases gk with
  | zero => exact absurd HA.out (by simp [bb_.l0])
  | succ k1 =>
   have H := HA.out
   clear HA
   simp only [bb_.l0] at H
   by_cases c2 : x7_1 < (l0.length : Int)
   rotate_left
   ·rw [if_neg c2] at H
    have c2b0 : decide (x7_1 < (l0.length : Int)) = false := decide_eq_false c2
    clear c2
    obtain rfl := Option.some.inj H
    go_wp2
    go_ret
    exact ⟨by first | rfl | (simp [*, ah_, ai_] <;> rfl), bz HB.out⟩
   rw [if_pos c2] at H
   have c2b0 : decide (x7_1 < (l0.length : Int)) = true := decide_eq_true c2
   clear c2
   by_cases c3 : 0 ≤ x7_1
   rotate_left
   ·rw [if_neg c3] at H
    exact absurd H (by simp)
   rw [if_pos c3] at H
   have c3b0 : decide (0 ≤ x7_1) = true := decide_eq_true c3
   clear c3
   by_cases c4 : x7_1 < (l0.length : Int)
   rotate_left
   ·rw [if_neg c4] at H
    exact absurd H (by simp)
   rw [if_pos c4] at H
   have c4b0 : decide (x7_1 < (l0.length : Int)) = true := decide_eq_true c4
   clear c4
   replace H := Option.bind_eq_some_iff.mp H
   obtain ⟨t103, A50, H⟩ := H
   (try dsimp only at H)
   have A5 := Aside0.mk A50
   clear A50
   have HC6 := Aside0.mk H
   clear H
   have p101 : 0 ≤ (x7_1 : Int) := of_decide_eq_true (by assumption)
   have q101 : x7_1 < (l0.length : Int) := of_decide_eq_true (by assumption)
   obtain ⟨ad101, e101, hx101_0, hx101_1⟩ := bX_ HR0.out x7_1 p101 q101
   cases e101
   replace hx101_0 := bu_ HB.out hx101_0
   replace hx101_1 := bu_ HB.out hx101_1
   replace p101 := eq_true p101
   replace q101 := eq_true q101
   go_upto_if 13 with (first | ((with_reducible refine al_ (N := 4) rfl ?_); refine ak_ ?hg (N := 4) ?hd (cs := #[.int .i64 0, .int .i64 0]) (t := 81) ?hr ?_; (case hd => rfl); (case hg => rfl); (case hr => (go_simp; try rfl)); intro gb102 hg w7 hbox hb; have BK102 := Aside0.mk (hbox); have GW102 := Aside0.mk ((by rw [hg]; exact (ae_ (bz HB.out)) : w.heap.size ≤ gb102)); have GE102 := GW102; replace HB := Aside0.mk (ad_ (bz HB.out) hb); clear hb hbox hg; obtain ⟨hcz8_0, hcz8_1⟩ := cz2_ BK102.out; obtain ⟨hfz8_0, hfz8_1⟩ := fz2_ BK102.out) | ((with_reducible refine an_ (f := 80) rfl ?_); refine aU_ (some 12) rfl rfl Try.func80 (by kernel_rfl) rfl #[.agg #[.int .i64 ((ab_ l0 x7_1).f0), .int .i64 ((ab_ l0 x7_1).f1)]] rfl (by first | rfl | (simp only [lma_, lmc_, lmn_]; first | done | rfl)) ?_; (with_reducible refine (cC_.calls ((ab_ l0 x7_1).f0) ((ab_ l0 x7_1).f1) t103 _ A5.out).mono ?_); rintro e w9 ⟨rfl, hb⟩; refine ⟨_, rfl, ?_⟩; replace BK102 := Aside0.mk (aa_ (g := gb102) (o := .cells #[.int .i64 ((ab_ l0 x7_1).f0), .int .i64 ((ab_ l0 x7_1).f1)] 81 (0, 0)) (by exact kj2_1 (kj2_0 (kz BK102.out))) hb); replace HB := Aside0.mk (ad_ (bq) hb); (try clear hb)))
   (try simp only [Act.put, lsa_, ls0_, ls1_])
   have H := HC6.out
   clear HC6
   by_cases c10 : t103 = true
   rotate_left
   ·replace c10 := Bool.eq_false_iff.mpr c10
    subst c10
    have H1 : (some false) = some r := by rw [if_neg (show ¬ (false = true) by decide)] at H; exact H
    clear H
    have H := H1
    clear H1
    obtain rfl := Option.some.inj H
    go_wp2
    go_ret
    exact ⟨by first | rfl | (simp [*, ah_, ai_] <;> rfl), bq⟩
   subst c10
   have H1 : (bb_.l0 k1 l0 (l0.length : Int) (wrap64 (x7_1 + 1))) = some r := by rw [if_pos rfl] at H; exact H
   clear H
   have H := H1
   clear H1
   have H' := Aside0.mk H
   clear H
   go_wp2
   go_roundg k1
   case measure => have := HK1.out; omega
   case rel => exact ⟨(wrap64 (x7_1 + 1)), (by first | rfl | (simp; done) | (simp [*]; done)), H', ⟨by have := HK1.out; omega⟩, ⟨bq⟩⟩
def bF_.f (a0_0 : Int) (a0_1 : Int) (a1_0 : Int) (a1_1 : Int) (a2_0 : Int) (a2_1 : Int) : Option (Int) := if (wrap64 ((wrap64 ((wrap64 (a1_0 - a0_0)) * (wrap64 (a2_1 - a0_1)))) - (wrap64 ((wrap64 (a1_1 - a0_1)) * (wrap64 (a2_0 - a0_0)))))) > 0 then (some 1) else (if (wrap64 ((wrap64 ((wrap64 (a1_0 - a0_0)) * (wrap64 (a2_1 - a0_1)))) - (wrap64 ((wrap64 (a1_1 - a0_1)) * (wrap64 (a2_0 - a0_0)))))) < 0 then (some (-1)) else (some 0))
set_option maxHeartbeats 8000000 in
set_option maxRecDepth 100000 in
theorem bF_.calls (a0_0 : Int) (a0_1 : Int) (a1_0 : Int) (a1_1 : Int) (a2_0 : Int) (a2_1 : Int) (r : Int) (w : World) (h : bF_.f a0_0 a0_1 a1_0 a1_1 a2_0 a2_1 = some r) :
  Calls Try.prog 81 #[.agg #[.int .i64 a0_0, .int .i64 a0_1], .agg #[.int .i64 a1_0, .int .i64 a1_1], .agg #[.int .i64 a2_0, .int .i64 a2_1]] w fun e w' => e = .returned (.int .i64 r) ∧ Below w.heap.size w w' := by
 have hu81 := Try.underlying81
 have HB := Aside0.mk (Below.refl w.heap.size w)
 have H : (if (wrap64 ((wrap64 ((wrap64 (a1_0 - a0_0)) * (wrap64 (a2_1 - a0_1)))) - (wrap64 ((wrap64 (a1_1 - a0_1)) * (wrap64 (a2_0 - a0_0)))))) > 0 then (some 1) else (if (wrap64 ((wrap64 ((wrap64 (a1_0 - a0_0)) * (wrap64 (a2_1 - a0_1)))) - (wrap64 ((wrap64 (a1_1 - a0_1)) * (wrap64 (a2_0 - a0_0)))))) < 0 then (some (-1)) else (some 0))) = some r := h
 clear h
 have HC4 := Aside0.mk H
 clear H
 go_enter Try.func81, Try.ntmps81
 go_upto_if 31 with (first | ((with_reducible refine al_ (N := 3) rfl ?_); refine ak_ ?hg (N := 3) ?hd (cs := #[.int .i64 a0_0, .int .i64 a0_1]) (t := 81) ?hr ?_; (case hd => rfl); (case hg => rfl); (case hr => (go_simp; try rfl)); intro gb101 hg w5 hbox hb; have BK101 := Aside0.mk (hbox); have GW101 := Aside0.mk ((by rw [hg]; exact (ae_ (bz HB.out)) : w.heap.size ≤ gb101)); have GE101 := GW101; replace HB := Aside0.mk (ad_ (bz HB.out) hb); clear hb hbox hg) | ((with_reducible refine al_ (N := 4) rfl ?_); refine ak_ ?hg (N := 4) ?hd (cs := #[.int .i64 a1_0, .int .i64 a1_1]) (t := 81) ?hr ?_; (case hd => rfl); (case hg => rfl); (case hr => (go_simp; try rfl)); intro gb102 hg w6 hbox hb; have BK102 := Aside0.mk (hbox); have GW102 := Aside0.mk ((by rw [hg]; exact (ae_ (bq)) : w.heap.size ≤ gb102)); have GE102 := GW102; replace HB := Aside0.mk (ad_ (bq) hb); have NB101_102 := Aside0.mk ((by rw [hg]; exact Nat.ne_of_lt (aj_ (kz BK101.out)) : gb101 ≠ gb102)); have NB102_101 := Aside0.mk ((by rw [hg]; exact Nat.ne_of_gt (aj_ (kz BK101.out)) : gb102 ≠ gb101)); replace BK101 := Aside0.mk (aa_ (kz BK101.out) hb); clear hb hbox hg) | ((with_reducible refine al_ (N := 5) rfl ?_); refine ak_ ?hg (N := 5) ?hd (cs := #[.int .i64 a2_0, .int .i64 a2_1]) (t := 81) ?hr ?_; (case hd => rfl); (case hg => rfl); (case hr => (go_simp; try rfl)); intro gb103 hg w7 hbox hb; have BK103 := Aside0.mk (hbox); have GW103 := Aside0.mk ((by rw [hg]; exact (ae_ (bq)) : w.heap.size ≤ gb103)); have GE103 := GW103; replace HB := Aside0.mk (ad_ (bq) hb); have NB101_103 := Aside0.mk ((by rw [hg]; exact Nat.ne_of_lt (aj_ (kz BK101.out)) : gb101 ≠ gb103)); have NB103_101 := Aside0.mk ((by rw [hg]; exact Nat.ne_of_gt (aj_ (kz BK101.out)) : gb103 ≠ gb101)); replace BK101 := Aside0.mk (aa_ (kz BK101.out) hb); have NB102_103 := Aside0.mk ((by rw [hg]; exact Nat.ne_of_lt (aj_ (kz BK102.out)) : gb102 ≠ gb103)); have NB103_102 := Aside0.mk ((by rw [hg]; exact Nat.ne_of_gt (aj_ (kz BK102.out)) : gb103 ≠ gb102)); replace BK102 := Aside0.mk (aa_ (kz BK102.out) hb); clear hb hbox hg; have hnb8 := NB102_101.out; have hnc8 := NB101_102.out; have hnb9 := NB102_103.out; have hnc9 := NB103_102.out; obtain ⟨hcz10_0, hcz10_1⟩ := cz2_ BK102.out; obtain ⟨hfz10_0, hfz10_1⟩ := fz2_ BK102.out; have hnb11 := NB101_103.out; have hnc11 := NB103_101.out; obtain ⟨hcz12_0, hcz12_1⟩ := cz2_ BK101.out; obtain ⟨hfz12_0, hfz12_1⟩ := fz2_ BK101.out; obtain ⟨hcz13_0, hcz13_1⟩ := cz2_ BK103.out; obtain ⟨hfz13_0, hfz13_1⟩ := fz2_ BK103.out))
 (try simp only [Act.put, lsa_, ls0_, ls1_])
 have H := HC4.out
 clear HC4
 by_cases c14 : (wrap64 ((wrap64 ((wrap64 (a1_0 - a0_0)) * (wrap64 (a2_1 - a0_1)))) - (wrap64 ((wrap64 (a1_1 - a0_1)) * (wrap64 (a2_0 - a0_0)))))) > 0
 rotate_left
 ·rw [if_neg c14] at H
  have c14b0 : decide (0 < (wrap64 ((wrap64 ((wrap64 (a1_0 - a0_0)) * (wrap64 (a2_1 - a0_1)))) - (wrap64 ((wrap64 (a1_1 - a0_1)) * (wrap64 (a2_0 - a0_0))))))) = false := decide_eq_false c14
  clear c14
  (first | rw [c14b0] | (simp only [i64_w, i32_w]; rw [c14b0]) | (simp only [c14b1, Bool.not_true, Bool.not_false]) | (simp only [c14b0, Bool.not_true, Bool.not_false]) | skip)
  by_cases c15 : (wrap64 ((wrap64 ((wrap64 (a1_0 - a0_0)) * (wrap64 (a2_1 - a0_1)))) - (wrap64 ((wrap64 (a1_1 - a0_1)) * (wrap64 (a2_0 - a0_0)))))) < 0
  rotate_left
  ·rw [if_neg c15] at H
   have c15b0 : decide ((wrap64 ((wrap64 ((wrap64 (a1_0 - a0_0)) * (wrap64 (a2_1 - a0_1)))) - (wrap64 ((wrap64 (a1_1 - a0_1)) * (wrap64 (a2_0 - a0_0)))))) < 0) = false := decide_eq_false c15
   clear c15
   obtain rfl := Option.some.inj H
   go_wp2
   go_ret
   exact ⟨by first | rfl | (simp [*, ah_, ai_] <;> rfl), bq⟩
  rw [if_pos c15] at H
  have c15b0 : decide ((wrap64 ((wrap64 ((wrap64 (a1_0 - a0_0)) * (wrap64 (a2_1 - a0_1)))) - (wrap64 ((wrap64 (a1_1 - a0_1)) * (wrap64 (a2_0 - a0_0)))))) < 0) = true := decide_eq_true c15
  clear c15
  obtain rfl := Option.some.inj H
  go_wp2
  go_ret
  exact ⟨by first | rfl | (simp [*, ah_, ai_] <;> rfl), bq⟩
 rw [if_pos c14] at H
 have c14b0 : decide (0 < (wrap64 ((wrap64 ((wrap64 (a1_0 - a0_0)) * (wrap64 (a2_1 - a0_1)))) - (wrap64 ((wrap64 (a1_1 - a0_1)) * (wrap64 (a2_0 - a0_0))))))) = true := decide_eq_true c14
 clear c14
 (first | rw [c14b0] | (simp only [i64_w, i32_w]; rw [c14b0]) | (simp only [c14b1, Bool.not_true, Bool.not_false]) | (simp only [c14b0, Bool.not_true, Bool.not_false]) | skip)
 obtain rfl := Option.some.inj H
 go_wp2
 go_ret
 exact ⟨by first | rfl | (simp [*, ah_, ai_] <;> rfl), bq⟩
def bt_.f (a0_0 : Int) (a0_1 : Int) (a1_0 : Int) (a1_1 : Int) (a2_0 : Int) (a2_1 : Int) : Option (Bool) := (bF_.f a0_0 a0_1 a1_0 a1_1 a2_0 a2_1).bind fun t104 => (if t104 = 0 then ((am_.f a2_0 (mn a0_0 a1_0) (mx a0_0 a1_0)).bind fun t105 => (if t105 = true then ((am_.f a2_1 (mn a0_1 a1_1) (mx a0_1 a1_1)).bind fun t106 => (some t106)) else (some false))) else (some false))
set_option maxHeartbeats 8000000 in
set_option maxRecDepth 100000 in
theorem bt_.calls (a0_0 : Int) (a0_1 : Int) (a1_0 : Int) (a1_1 : Int) (a2_0 : Int) (a2_1 : Int) (r : Bool) (w : World) (h : bt_.f a0_0 a0_1 a1_0 a1_1 a2_0 a2_1 = some r) :
  Calls Try.prog 68 #[.agg #[.int .i64 a0_0, .int .i64 a0_1], .agg #[.int .i64 a1_0, .int .i64 a1_1], .agg #[.int .i64 a2_0, .int .i64 a2_1]] w fun e w' => e = .returned (.bool r) ∧ Below w.heap.size w w' := by
 have hu81 := Try.underlying81
 have HB := Aside0.mk (Below.refl w.heap.size w)
 have H : ((bF_.f a0_0 a0_1 a1_0 a1_1 a2_0 a2_1).bind fun t104 => (if t104 = 0 then ((am_.f a2_0 (mn a0_0 a1_0) (mx a0_0 a1_0)).bind fun t105 => (if t105 = true then ((am_.f a2_1 (mn a0_1 a1_1) (mx a0_1 a1_1)).bind fun t106 => (some t106)) else (some false))) else (some false))) = some r := h
 clear h
 replace H := Option.bind_eq_some_iff.mp H
 obtain ⟨t104, A40, H⟩ := H
 (try dsimp only at H)
 have A4 := Aside0.mk A40
 clear A40
 by_cases c5 : t104 = 0
 rotate_left
 ·rw [if_neg c5] at H
  have c5b0 : (t104 == 0) = false := beq_eq_false_iff_ne.mpr c5
  have c5b1 : (t104 != 0) = true := bne_iff_ne.mpr c5
  obtain rfl := Option.some.inj H
  go_enter Try.func68, Try.ntmps68
  go_wp2_with (first | ((with_reducible refine al_ (N := 3) rfl ?_); (try (refine bT_ (by rfl) ?_; dsimp only)); refine ak_ ?hg (N := 3) ?hd (cs := #[.int .i64 a0_0, .int .i64 a0_1]) (t := 81) ?hr ?_; (case hd => rfl); (case hg => rfl); (case hr => (go_simp; try rfl)); intro gb101 hg w39 hbox hb; have BK101 := Aside0.mk (hbox); have GW101 := Aside0.mk ((by rw [hg]; exact (ae_ (bz HB.out)) : w.heap.size ≤ gb101)); have GE101 := GW101; replace HB := Aside0.mk (ad_ (bz HB.out) hb); clear hb hbox hg) | ((with_reducible refine al_ (N := 4) rfl ?_); (try (refine bT_ (by rfl) ?_; dsimp only)); refine ak_ ?hg (N := 4) ?hd (cs := #[.int .i64 a1_0, .int .i64 a1_1]) (t := 81) ?hr ?_; (case hd => rfl); (case hg => rfl); (case hr => (go_simp; try rfl)); intro gb102 hg w40 hbox hb; have BK102 := Aside0.mk (hbox); have GW102 := Aside0.mk ((by rw [hg]; exact (ae_ (bq)) : w.heap.size ≤ gb102)); have GE102 := GW102; replace HB := Aside0.mk (ad_ (bq) hb); have NB101_102 := Aside0.mk ((by rw [hg]; exact Nat.ne_of_lt (aj_ (kz BK101.out)) : gb101 ≠ gb102)); have NB102_101 := Aside0.mk ((by rw [hg]; exact Nat.ne_of_gt (aj_ (kz BK101.out)) : gb102 ≠ gb101)); replace BK101 := Aside0.mk (aa_ (kz BK101.out) hb); clear hb hbox hg) | ((with_reducible refine al_ (N := 5) rfl ?_); (try (refine bT_ (by rfl) ?_; dsimp only)); refine ak_ ?hg (N := 5) ?hd (cs := #[.int .i64 a2_0, .int .i64 a2_1]) (t := 81) ?hr ?_; (case hd => rfl); (case hg => rfl); (case hr => (go_simp; try rfl)); intro gb103 hg w41 hbox hb; have BK103 := Aside0.mk (hbox); have GW103 := Aside0.mk ((by rw [hg]; exact (ae_ (bq)) : w.heap.size ≤ gb103)); have GE103 := GW103; replace HB := Aside0.mk (ad_ (bq) hb); have NB101_103 := Aside0.mk ((by rw [hg]; exact Nat.ne_of_lt (aj_ (kz BK101.out)) : gb101 ≠ gb103)); have NB103_101 := Aside0.mk ((by rw [hg]; exact Nat.ne_of_gt (aj_ (kz BK101.out)) : gb103 ≠ gb101)); replace BK101 := Aside0.mk (aa_ (kz BK101.out) hb); have NB102_103 := Aside0.mk ((by rw [hg]; exact Nat.ne_of_lt (aj_ (kz BK102.out)) : gb102 ≠ gb103)); have NB103_102 := Aside0.mk ((by rw [hg]; exact Nat.ne_of_gt (aj_ (kz BK102.out)) : gb103 ≠ gb102)); replace BK102 := Aside0.mk (aa_ (kz BK102.out) hb); clear hb hbox hg; have hnb42 := NB101_102.out; have hnc42 := NB102_101.out; have hnb43 := NB101_103.out; have hnc43 := NB103_101.out; obtain ⟨hcz44_0, hcz44_1⟩ := cz2_ BK101.out; obtain ⟨hfz44_0, hfz44_1⟩ := fz2_ BK101.out; have hnb45 := NB102_103.out; have hnc45 := NB103_102.out; obtain ⟨hcz46_0, hcz46_1⟩ := cz2_ BK102.out; obtain ⟨hfz46_0, hfz46_1⟩ := fz2_ BK102.out; obtain ⟨hcz47_0, hcz47_1⟩ := cz2_ BK103.out; obtain ⟨hfz47_0, hfz47_1⟩ := fz2_ BK103.out) | ((with_reducible refine an_ (f := 81) rfl ?_); refine aU_ (some 10) rfl rfl Try.func81 (by kernel_rfl) rfl #[.agg #[.int .i64 a0_0, .int .i64 a0_1], .agg #[.int .i64 a1_0, .int .i64 a1_1], .agg #[.int .i64 a2_0, .int .i64 a2_1]] rfl (by first | rfl | (simp only [lma_, lmc_, lmn_]; first | done | rfl)) ?_; (with_reducible refine (bF_.calls a0_0 a0_1 a1_0 a1_1 a2_0 a2_1 t104 _ A4.out).mono ?_); rintro e w48 ⟨rfl, hb⟩; refine ⟨_, rfl, ?_⟩; replace BK101 := Aside0.mk (aa_ (kz BK101.out) hb); replace BK102 := Aside0.mk (aa_ (kz BK102.out) hb); replace BK103 := Aside0.mk (aa_ (kz BK103.out) hb); replace HB := Aside0.mk (ad_ (bq) hb); (try clear hb)))
  go_ret
  exact ⟨by first | rfl | (simp [*, ah_, ai_] <;> rfl), bq⟩
 rw [if_pos c5] at H
 have c5b0 : (t104 == 0) = true := beq_iff_eq.mpr c5
 have c5b1 : (t104 != 0) = false := bne_eq_false_iff_eq.mpr c5
 clear c5
 obtain ⟨ji6, hji6⟩ : ∃ j_ : Int, (mn a0_0 a1_0) = j_ := ⟨_, rfl⟩
 replace H : ((am_.f a2_0 (ji6) (mx a0_0 a1_0)).bind fun t105 => (if t105 = true then ((am_.f a2_1 (mn a0_1 a1_1) (mx a0_1 a1_1)).bind fun t106 => (some t106)) else (some false))) = some r := by first | (rw [hji6] at H; exact H) | (simp only [hji6] at H ⊢; exact H)
 (try rw [hji6] at A4)
 have hji6_ : (if a1_0 < a0_0 then a1_0 else a0_0) = ji6 := hji6
 obtain ⟨ji7, hji7⟩ : ∃ j_ : Int, (mx a0_0 a1_0) = j_ := ⟨_, rfl⟩
 replace H : ((am_.f a2_0 (ji6) (ji7)).bind fun t105 => (if t105 = true then ((am_.f a2_1 (mn a0_1 a1_1) (mx a0_1 a1_1)).bind fun t106 => (some t106)) else (some false))) = some r := by first | (rw [hji7] at H; exact H) | (simp only [hji7] at H ⊢; exact H)
 (try rw [hji7] at A4)
 have hji7_ : (if a0_0 < a1_0 then a1_0 else a0_0) = ji7 := hji7
 replace H := Option.bind_eq_some_iff.mp H
 obtain ⟨t105, A80, H⟩ := H
 (try dsimp only at H)
 have A8 := Aside0.mk A80
 clear A80
 by_cases c9 : t105 = true
 rotate_left
 ·replace c9 := Bool.eq_false_iff.mpr c9
  subst c9
  have H1 : (some false) = some r := by rw [if_neg (show ¬ (false = true) by decide)] at H; exact H
  clear H
  have H := H1
  clear H1
  obtain rfl := Option.some.inj H
  go_enter Try.func68, Try.ntmps68
  go_wp2_with (first | ((with_reducible refine al_ (N := 3) rfl ?_); (try (refine bT_ (by rfl) ?_; dsimp only)); refine ak_ ?hg (N := 3) ?hd (cs := #[.int .i64 a0_0, .int .i64 a0_1]) (t := 81) ?hr ?_; (case hd => rfl); (case hg => rfl); (case hr => (go_simp; try rfl)); intro gb101 hg w26 hbox hb; have BK101 := Aside0.mk (hbox); have GW101 := Aside0.mk ((by rw [hg]; exact (ae_ (bz HB.out)) : w.heap.size ≤ gb101)); have GE101 := GW101; replace HB := Aside0.mk (ad_ (bz HB.out) hb); clear hb hbox hg) | ((with_reducible refine al_ (N := 4) rfl ?_); (try (refine bT_ (by rfl) ?_; dsimp only)); refine ak_ ?hg (N := 4) ?hd (cs := #[.int .i64 a1_0, .int .i64 a1_1]) (t := 81) ?hr ?_; (case hd => rfl); (case hg => rfl); (case hr => (go_simp; try rfl)); intro gb102 hg w27 hbox hb; have BK102 := Aside0.mk (hbox); have GW102 := Aside0.mk ((by rw [hg]; exact (ae_ (bq)) : w.heap.size ≤ gb102)); have GE102 := GW102; replace HB := Aside0.mk (ad_ (bq) hb); have NB101_102 := Aside0.mk ((by rw [hg]; exact Nat.ne_of_lt (aj_ (kz BK101.out)) : gb101 ≠ gb102)); have NB102_101 := Aside0.mk ((by rw [hg]; exact Nat.ne_of_gt (aj_ (kz BK101.out)) : gb102 ≠ gb101)); replace BK101 := Aside0.mk (aa_ (kz BK101.out) hb); clear hb hbox hg) | ((with_reducible refine al_ (N := 5) rfl ?_); (try (refine bT_ (by rfl) ?_; dsimp only)); refine ak_ ?hg (N := 5) ?hd (cs := #[.int .i64 a2_0, .int .i64 a2_1]) (t := 81) ?hr ?_; (case hd => rfl); (case hg => rfl); (case hr => (go_simp; try rfl)); intro gb103 hg w28 hbox hb; have BK103 := Aside0.mk (hbox); have GW103 := Aside0.mk ((by rw [hg]; exact (ae_ (bq)) : w.heap.size ≤ gb103)); have GE103 := GW103; replace HB := Aside0.mk (ad_ (bq) hb); have NB101_103 := Aside0.mk ((by rw [hg]; exact Nat.ne_of_lt (aj_ (kz BK101.out)) : gb101 ≠ gb103)); have NB103_101 := Aside0.mk ((by rw [hg]; exact Nat.ne_of_gt (aj_ (kz BK101.out)) : gb103 ≠ gb101)); replace BK101 := Aside0.mk (aa_ (kz BK101.out) hb); have NB102_103 := Aside0.mk ((by rw [hg]; exact Nat.ne_of_lt (aj_ (kz BK102.out)) : gb102 ≠ gb103)); have NB103_102 := Aside0.mk ((by rw [hg]; exact Nat.ne_of_gt (aj_ (kz BK102.out)) : gb103 ≠ gb102)); replace BK102 := Aside0.mk (aa_ (kz BK102.out) hb); clear hb hbox hg; have hnb29 := NB101_102.out; have hnc29 := NB102_101.out; have hnb30 := NB101_103.out; have hnc30 := NB103_101.out; obtain ⟨hcz31_0, hcz31_1⟩ := cz2_ BK101.out; obtain ⟨hfz31_0, hfz31_1⟩ := fz2_ BK101.out; have hnb32 := NB102_103.out; have hnc32 := NB103_102.out; obtain ⟨hcz33_0, hcz33_1⟩ := cz2_ BK102.out; obtain ⟨hfz33_0, hfz33_1⟩ := fz2_ BK102.out; obtain ⟨hcz34_0, hcz34_1⟩ := cz2_ BK103.out; obtain ⟨hfz34_0, hfz34_1⟩ := fz2_ BK103.out) | ((with_reducible refine an_ (f := 81) rfl ?_); refine aU_ (some 10) rfl rfl Try.func81 (by kernel_rfl) rfl #[.agg #[.int .i64 a0_0, .int .i64 a0_1], .agg #[.int .i64 a1_0, .int .i64 a1_1], .agg #[.int .i64 a2_0, .int .i64 a2_1]] rfl (by first | rfl | (simp only [lma_, lmc_, lmn_]; first | done | rfl)) ?_; (with_reducible refine (bF_.calls a0_0 a0_1 a1_0 a1_1 a2_0 a2_1 t104 _ A4.out).mono ?_); rintro e w35 ⟨rfl, hb⟩; refine ⟨_, rfl, ?_⟩; replace BK101 := Aside0.mk (aa_ (kz BK101.out) hb); replace BK102 := Aside0.mk (aa_ (kz BK102.out) hb); replace BK103 := Aside0.mk (aa_ (kz BK103.out) hb); replace HB := Aside0.mk (ad_ (bq) hb); (try clear hb); obtain ⟨hcz36_0, hcz36_1⟩ := cz2_ BK103.out; obtain ⟨hfz36_0, hfz36_1⟩ := fz2_ BK103.out; obtain ⟨hcz37_0, hcz37_1⟩ := cz2_ BK101.out; obtain ⟨hfz37_0, hfz37_1⟩ := fz2_ BK101.out; obtain ⟨hcz38_0, hcz38_1⟩ := cz2_ BK102.out; obtain ⟨hfz38_0, hfz38_1⟩ := fz2_ BK102.out) | (go_at_call 39; (with_reducible refine (am_.calls a2_0 ji6 ji7 false _ A8.out).mono ?_); rintro e w' ⟨rfl, ⟨nd, rfl⟩⟩))
  go_ret
  exact ⟨by first | rfl | (simp [ah_, ai_] <;> rfl) | (simp only [← hji6, ← hji7]; first | rfl | (simp [ah_, ai_] <;> rfl)) | (simp [*, ah_, ai_] <;> rfl), bq⟩
 subst c9
 have H1 : ((am_.f a2_1 (mn a0_1 a1_1) (mx a0_1 a1_1)).bind fun t106 => (some t106)) = some r := by rw [if_pos rfl] at H; exact H
 clear H
 have H := H1
 clear H1
 obtain ⟨ji10, hji10⟩ : ∃ j_ : Int, (mn a0_1 a1_1) = j_ := ⟨_, rfl⟩
 replace H : ((am_.f a2_1 (ji10) (mx a0_1 a1_1)).bind fun t106 => (some t106)) = some r := by first | (rw [hji10] at H; exact H) | (simp only [hji10] at H ⊢; exact H)
 (try rw [hji10] at A4)
 (try rw [hji10] at A8)
 have hji10_ : (if a1_1 < a0_1 then a1_1 else a0_1) = ji10 := hji10
 obtain ⟨ji11, hji11⟩ : ∃ j_ : Int, (mx a0_1 a1_1) = j_ := ⟨_, rfl⟩
 replace H : ((am_.f a2_1 (ji10) (ji11)).bind fun t106 => (some t106)) = some r := by first | (rw [hji11] at H; exact H) | (simp only [hji11] at H ⊢; exact H)
 (try rw [hji11] at A4)
 (try rw [hji11] at A8)
 have hji11_ : (if a0_1 < a1_1 then a1_1 else a0_1) = ji11 := hji11
 replace H := Option.bind_eq_some_iff.mp H
 obtain ⟨t106, A120, H⟩ := H
 (try dsimp only at H)
 have A12 := Aside0.mk A120
 clear A120
 obtain rfl := Option.some.inj H
 go_enter Try.func68, Try.ntmps68
 go_wp2_with (first | ((with_reducible refine al_ (N := 3) rfl ?_); (try (refine bT_ (by rfl) ?_; dsimp only)); refine ak_ ?hg (N := 3) ?hd (cs := #[.int .i64 a0_0, .int .i64 a0_1]) (t := 81) ?hr ?_; (case hd => rfl); (case hg => rfl); (case hr => (go_simp; try rfl)); intro gb101 hg w13 hbox hb; have BK101 := Aside0.mk (hbox); have GW101 := Aside0.mk ((by rw [hg]; exact (ae_ (bz HB.out)) : w.heap.size ≤ gb101)); have GE101 := GW101; replace HB := Aside0.mk (ad_ (bz HB.out) hb); clear hb hbox hg) | ((with_reducible refine al_ (N := 4) rfl ?_); (try (refine bT_ (by rfl) ?_; dsimp only)); refine ak_ ?hg (N := 4) ?hd (cs := #[.int .i64 a1_0, .int .i64 a1_1]) (t := 81) ?hr ?_; (case hd => rfl); (case hg => rfl); (case hr => (go_simp; try rfl)); intro gb102 hg w14 hbox hb; have BK102 := Aside0.mk (hbox); have GW102 := Aside0.mk ((by rw [hg]; exact (ae_ (bq)) : w.heap.size ≤ gb102)); have GE102 := GW102; replace HB := Aside0.mk (ad_ (bq) hb); have NB101_102 := Aside0.mk ((by rw [hg]; exact Nat.ne_of_lt (aj_ (kz BK101.out)) : gb101 ≠ gb102)); have NB102_101 := Aside0.mk ((by rw [hg]; exact Nat.ne_of_gt (aj_ (kz BK101.out)) : gb102 ≠ gb101)); replace BK101 := Aside0.mk (aa_ (kz BK101.out) hb); clear hb hbox hg) | ((with_reducible refine al_ (N := 5) rfl ?_); (try (refine bT_ (by rfl) ?_; dsimp only)); refine ak_ ?hg (N := 5) ?hd (cs := #[.int .i64 a2_0, .int .i64 a2_1]) (t := 81) ?hr ?_; (case hd => rfl); (case hg => rfl); (case hr => (go_simp; try rfl)); intro gb103 hg w15 hbox hb; have BK103 := Aside0.mk (hbox); have GW103 := Aside0.mk ((by rw [hg]; exact (ae_ (bq)) : w.heap.size ≤ gb103)); have GE103 := GW103; replace HB := Aside0.mk (ad_ (bq) hb); have NB101_103 := Aside0.mk ((by rw [hg]; exact Nat.ne_of_lt (aj_ (kz BK101.out)) : gb101 ≠ gb103)); have NB103_101 := Aside0.mk ((by rw [hg]; exact Nat.ne_of_gt (aj_ (kz BK101.out)) : gb103 ≠ gb101)); replace BK101 := Aside0.mk (aa_ (kz BK101.out) hb); have NB102_103 := Aside0.mk ((by rw [hg]; exact Nat.ne_of_lt (aj_ (kz BK102.out)) : gb102 ≠ gb103)); have NB103_102 := Aside0.mk ((by rw [hg]; exact Nat.ne_of_gt (aj_ (kz BK102.out)) : gb103 ≠ gb102)); replace BK102 := Aside0.mk (aa_ (kz BK102.out) hb); clear hb hbox hg; have hnb16 := NB101_102.out; have hnc16 := NB102_101.out; have hnb17 := NB101_103.out; have hnc17 := NB103_101.out; obtain ⟨hcz18_0, hcz18_1⟩ := cz2_ BK101.out; obtain ⟨hfz18_0, hfz18_1⟩ := fz2_ BK101.out; have hnb19 := NB102_103.out; have hnc19 := NB103_102.out; obtain ⟨hcz20_0, hcz20_1⟩ := cz2_ BK102.out; obtain ⟨hfz20_0, hfz20_1⟩ := fz2_ BK102.out; obtain ⟨hcz21_0, hcz21_1⟩ := cz2_ BK103.out; obtain ⟨hfz21_0, hfz21_1⟩ := fz2_ BK103.out) | ((with_reducible refine an_ (f := 81) rfl ?_); refine aU_ (some 10) rfl rfl Try.func81 (by kernel_rfl) rfl #[.agg #[.int .i64 a0_0, .int .i64 a0_1], .agg #[.int .i64 a1_0, .int .i64 a1_1], .agg #[.int .i64 a2_0, .int .i64 a2_1]] rfl (by first | rfl | (simp only [lma_, lmc_, lmn_]; first | done | rfl)) ?_; (with_reducible refine (bF_.calls a0_0 a0_1 a1_0 a1_1 a2_0 a2_1 t104 _ A4.out).mono ?_); rintro e w22 ⟨rfl, hb⟩; refine ⟨_, rfl, ?_⟩; replace BK101 := Aside0.mk (aa_ (kz BK101.out) hb); replace BK102 := Aside0.mk (aa_ (kz BK102.out) hb); replace BK103 := Aside0.mk (aa_ (kz BK103.out) hb); replace HB := Aside0.mk (ad_ (bq) hb); (try clear hb); obtain ⟨hcz23_0, hcz23_1⟩ := cz2_ BK103.out; obtain ⟨hfz23_0, hfz23_1⟩ := fz2_ BK103.out; obtain ⟨hcz24_0, hcz24_1⟩ := cz2_ BK101.out; obtain ⟨hfz24_0, hfz24_1⟩ := fz2_ BK101.out; obtain ⟨hcz25_0, hcz25_1⟩ := cz2_ BK102.out; obtain ⟨hfz25_0, hfz25_1⟩ := fz2_ BK102.out) | (go_at_call 39; (with_reducible refine (am_.calls a2_0 ji6 ji7 true _ A8.out).mono ?_); rintro e w' ⟨rfl, ⟨nd, rfl⟩⟩) | (go_at_call 39; (with_reducible refine (am_.calls a2_1 ji10 ji11 t106 _ A12.out).mono ?_); rintro e w' ⟨rfl, ⟨nd, rfl⟩⟩))
 go_ret
 exact ⟨by first | rfl | (simp [ah_, ai_] <;> rfl) | (simp only [← hji6, ← hji7, ← hji10, ← hji11]; first | rfl | (simp [ah_, ai_] <;> rfl)) | (simp [*, ah_, ai_] <;> rfl), bq⟩
def be_.f (a0_0 : Int) (a0_1 : Int) (a1_0 : Int) (a1_1 : Int) (a2_0 : Int) (a2_1 : Int) (a3_0 : Int) (a3_1 : Int) : Option (Bool) := (bF_.f a0_0 a0_1 a1_0 a1_1 a2_0 a2_1).bind fun t105 => ((bF_.f a0_0 a0_1 a1_0 a1_1 a3_0 a3_1).bind fun t106 => (if (wrap64 (t105 * t106)) < 0 then ((bF_.f a2_0 a2_1 a3_0 a3_1 a0_0 a0_1).bind fun t107 => ((bF_.f a2_0 a2_1 a3_0 a3_1 a1_0 a1_1).bind fun t108 => (some (decide ((wrap64 (t107 * t108)) < 0))))) else (some false)))
def be_.T1 : Bool × List (List Nat × List Nat) := (true, [([], []), ([], []), ([], []), ([0, 1, 2], [0, 1, 2]), ([], []), ([], []), ([], []), ([4, 5, 6, 3], [4, 5, 6]), ([3, 7], [3, 7]), ([8], [8]), ([9, 7], [9]), ([10], [10]), ([10], [10]), ([10], [10]), ([11, 12, 13, 10, 10], [10, 11, 12, 13]), ([10], [10]), ([10], [10]), ([10], [10]), ([15, 16, 17, 14, 10], [10, 15, 16, 17]), ([14, 18, 10], [10, 14, 18]), ([19, 10], [10, 19]), ([10, 20], [10, 20]), ([21, 18, 0, 1, 2, 3, 4, 5, 6, 7, 8, 9, 10, 11, 12, 13, 14, 15, 16, 17, 18, 19, 20, 21], [21])])
def be_.B1 : List Nat := [0, 0, 0, 7, 0, 0, 0, 127, 255, 511, 1023, 2047, 2047, 2047, 16383, 2047, 2047, 2047, 262143, 524287, 1048575, 2097151, 4194303]
theorem be_.tab1 : rtab .any (opsOf Try.f82 1) = be_.T1 := by kernel_rfl
theorem be_.bits1 : cj_ be_.T1.2 be_.B1 = true := by kernel_rfl
set_option maxHeartbeats 8000000 in
set_option maxRecDepth 100000 in
theorem be_.calls (a0_0 : Int) (a0_1 : Int) (a1_0 : Int) (a1_1 : Int) (a2_0 : Int) (a2_1 : Int) (a3_0 : Int) (a3_1 : Int) (r : Bool) (w : World) (h : be_.f a0_0 a0_1 a1_0 a1_1 a2_0 a2_1 a3_0 a3_1 = some r) :
  Calls Try.prog 82 #[.agg #[.int .i64 a0_0, .int .i64 a0_1], .agg #[.int .i64 a1_0, .int .i64 a1_1], .agg #[.int .i64 a2_0, .int .i64 a2_1], .agg #[.int .i64 a3_0, .int .i64 a3_1]] w fun e w' => e = .returned (.bool r) ∧ Below w.heap.size w w' := by
 have hu81 := Try.underlying81
 have HB := Aside0.mk (Below.refl w.heap.size w)
 have H : ((bF_.f a0_0 a0_1 a1_0 a1_1 a2_0 a2_1).bind fun t105 => ((bF_.f a0_0 a0_1 a1_0 a1_1 a3_0 a3_1).bind fun t106 => (if (wrap64 (t105 * t106)) < 0 then ((bF_.f a2_0 a2_1 a3_0 a3_1 a0_0 a0_1).bind fun t107 => ((bF_.f a2_0 a2_1 a3_0 a3_1 a1_0 a1_1).bind fun t108 => (some (decide ((wrap64 (t107 * t108)) < 0))))) else (some false)))) = some r := h
 clear h
 replace H := Option.bind_eq_some_iff.mp H
 obtain ⟨t105, A50, H⟩ := H
 (try dsimp only at H)
 have A5 := Aside0.mk A50
 clear A50
 replace H := Option.bind_eq_some_iff.mp H
 obtain ⟨t106, A60, H⟩ := H
 (try dsimp only at H)
 have A6 := Aside0.mk A60
 clear A60
 by_cases c7 : (wrap64 (t105 * t106)) < 0
 rotate_left
 ·rw [if_neg c7] at H
  have c7b0 : decide ((wrap64 (t105 * t106)) < 0) = false := decide_eq_false c7
  clear c7
  obtain rfl := Option.some.inj H
  go_enter Try.func82, Try.ntmps82
  try go_wp2_with (first | ((with_reducible refine al_ (N := 4) rfl ?_); refine ak_ ?hg (N := 4) ?hd (cs := #[.int .i64 a0_0, .int .i64 a0_1]) (t := 81) ?hr ?_; (case hd => rfl); (case hg => rfl); (case hr => (go_simp; try rfl)); intro gb101 hg w19 hbox hb; have BK101 := Aside0.mk (hbox); have GW101 := Aside0.mk ((by rw [hg]; exact (ae_ (bz HB.out)) : w.heap.size ≤ gb101)); have GE101 := GW101; replace HB := Aside0.mk (ad_ (bz HB.out) hb); clear hb hbox hg) | ((with_reducible refine al_ (N := 5) rfl ?_); refine ak_ ?hg (N := 5) ?hd (cs := #[.int .i64 a1_0, .int .i64 a1_1]) (t := 81) ?hr ?_; (case hd => rfl); (case hg => rfl); (case hr => (go_simp; try rfl)); intro gb102 hg w20 hbox hb; have BK102 := Aside0.mk (hbox); have GW102 := Aside0.mk ((by rw [hg]; exact (ae_ (bq)) : w.heap.size ≤ gb102)); have GE102 := GW102; replace HB := Aside0.mk (ad_ (bq) hb); have NB101_102 := Aside0.mk ((by rw [hg]; exact Nat.ne_of_lt (aj_ (kz BK101.out)) : gb101 ≠ gb102)); have NB102_101 := Aside0.mk ((by rw [hg]; exact Nat.ne_of_gt (aj_ (kz BK101.out)) : gb102 ≠ gb101)); replace BK101 := Aside0.mk (aa_ (kz BK101.out) hb); clear hb hbox hg) | ((with_reducible refine al_ (N := 6) rfl ?_); refine ak_ ?hg (N := 6) ?hd (cs := #[.int .i64 a2_0, .int .i64 a2_1]) (t := 81) ?hr ?_; (case hd => rfl); (case hg => rfl); (case hr => (go_simp; try rfl)); intro gb103 hg w21 hbox hb; have BK103 := Aside0.mk (hbox); have GW103 := Aside0.mk ((by rw [hg]; exact (ae_ (bq)) : w.heap.size ≤ gb103)); have GE103 := GW103; replace HB := Aside0.mk (ad_ (bq) hb); have NB101_103 := Aside0.mk ((by rw [hg]; exact Nat.ne_of_lt (aj_ (kz BK101.out)) : gb101 ≠ gb103)); have NB103_101 := Aside0.mk ((by rw [hg]; exact Nat.ne_of_gt (aj_ (kz BK101.out)) : gb103 ≠ gb101)); replace BK101 := Aside0.mk (aa_ (kz BK101.out) hb); have NB102_103 := Aside0.mk ((by rw [hg]; exact Nat.ne_of_lt (aj_ (kz BK102.out)) : gb102 ≠ gb103)); have NB103_102 := Aside0.mk ((by rw [hg]; exact Nat.ne_of_gt (aj_ (kz BK102.out)) : gb103 ≠ gb102)); replace BK102 := Aside0.mk (aa_ (kz BK102.out) hb); clear hb hbox hg) | ((with_reducible refine al_ (N := 7) rfl ?_); refine ak_ ?hg (N := 7) ?hd (cs := #[.int .i64 a3_0, .int .i64 a3_1]) (t := 81) ?hr ?_; (case hd => rfl); (case hg => rfl); (case hr => (go_simp; try rfl)); intro gb104 hg w22 hbox hb; have BK104 := Aside0.mk (hbox); have GW104 := Aside0.mk ((by rw [hg]; exact (ae_ (bq)) : w.heap.size ≤ gb104)); have GE104 := GW104; replace HB := Aside0.mk (ad_ (bq) hb); have NB101_104 := Aside0.mk ((by rw [hg]; exact Nat.ne_of_lt (aj_ (kz BK101.out)) : gb101 ≠ gb104)); have NB104_101 := Aside0.mk ((by rw [hg]; exact Nat.ne_of_gt (aj_ (kz BK101.out)) : gb104 ≠ gb101)); replace BK101 := Aside0.mk (aa_ (kz BK101.out) hb); have NB102_104 := Aside0.mk ((by rw [hg]; exact Nat.ne_of_lt (aj_ (kz BK102.out)) : gb102 ≠ gb104)); have NB104_102 := Aside0.mk ((by rw [hg]; exact Nat.ne_of_gt (aj_ (kz BK102.out)) : gb104 ≠ gb102)); replace BK102 := Aside0.mk (aa_ (kz BK102.out) hb); have NB103_104 := Aside0.mk ((by rw [hg]; exact Nat.ne_of_lt (aj_ (kz BK103.out)) : gb103 ≠ gb104)); have NB104_103 := Aside0.mk ((by rw [hg]; exact Nat.ne_of_gt (aj_ (kz BK103.out)) : gb104 ≠ gb103)); replace BK103 := Aside0.mk (aa_ (kz BK103.out) hb); clear hb hbox hg))
  have n0_ := Aside0.mk (av_ BK101.out)
  have n1_ := Aside0.mk (av_ BK102.out)
  have n2_ := Aside0.mk (av_ BK103.out)
  have n3_ := Aside0.mk (av_ BK104.out)
  have n4_ := Aside0.mk (bD_ HB.out)
  clear BK101
  clear BK102
  clear BK103
  clear BK104
  clear HB
  have BK101 := n0_
  have BK102 := n1_
  have BK103 := n2_
  have BK104 := n3_
  have HB := n4_
  clear n0_ n1_ n2_ n3_ n4_
  refine cl_ (n := 23) (S := fun w' => w'.cell? ⟨gb101, 0, none⟩ = some (.int .i64 a0_0) ∧ w'.cell? ⟨gb101, 1, none⟩ = some (.int .i64 a0_1) ∧ w'.cell? ⟨gb102, 0, none⟩ = some (.int .i64 a1_0) ∧ w'.cell? ⟨gb102, 1, none⟩ = some (.int .i64 a1_1) ∧ w'.cell? ⟨gb103, 0, none⟩ = some (.int .i64 a2_0) ∧ w'.cell? ⟨gb103, 1, none⟩ = some (.int .i64 a2_1) ∧ w'.cell? ⟨gb104, 0, none⟩ = some (.int .i64 a3_0) ∧ w'.cell? ⟨gb104, 1, none⟩ = some (.int .i64 a3_1)) (ds := []) #[f_,f_,f_,f_,f_,f_,f_,f_,f_,f_,f_,f_,f_,f_,f_,f_,f_,f_,f_,f_,f_,f_,f_] (by kernel_rfl) rfl rfl ⟨(ac_ BK101.out 0).trans rfl, (ac_ BK101.out 1).trans rfl, (ac_ BK102.out 0).trans rfl, (ac_ BK102.out 1).trans rfl, (ac_ BK103.out 0).trans rfl, (ac_ BK103.out 1).trans rfl, (ac_ BK104.out 0).trans rfl, (ac_ BK104.out 1).trans rfl⟩ (fun hHeld => ?_); refine bo_ be_.tab1 be_.bits1 (fun HT_ HW_ => ?_)
  generalize w22.drew = w23 at BK101 BK102 BK103 BK104 HB hHeld ⊢
  refine tk 0 9 #[t_,f_,f_,f_,f_,f_,f_,f_,f_,f_,f_,f_,f_,f_,f_,f_,f_,f_,f_,f_,f_,f_,f_] HT_ HW_ hHeld ?_ (hv := by rintro w' ⟨s0, s1, s2, s3, s4, s5, s6, s7⟩; go_simp; with_reducible rfl)
  refine tk 1 10 #[t_,t_,f_,f_,f_,f_,f_,f_,f_,f_,f_,f_,f_,f_,f_,f_,f_,f_,f_,f_,f_,f_,f_] HT_ HW_ hHeld ?_ (hv := by rintro w' ⟨s0, s1, s2, s3, s4, s5, s6, s7⟩; go_simp; with_reducible rfl)
  refine tk 2 11 #[t_,t_,t_,f_,f_,f_,f_,f_,f_,f_,f_,f_,f_,f_,f_,f_,f_,f_,f_,f_,f_,f_,f_] HT_ HW_ hHeld ?_ (hv := by rintro w' ⟨s0, s1, s2, s3, s4, s5, s6, s7⟩; go_simp; with_reducible rfl)
  refine tk 4 13 #[t_,t_,t_,f_,t_,f_,f_,f_,f_,f_,f_,f_,f_,f_,f_,f_,f_,f_,f_,f_,f_,f_,f_] HT_ HW_ hHeld ?_ (hv := by rintro w' ⟨s0, s1, s2, s3, s4, s5, s6, s7⟩; go_simp; with_reducible rfl)
  refine tk 5 14 #[t_,t_,t_,f_,t_,t_,f_,f_,f_,f_,f_,f_,f_,f_,f_,f_,f_,f_,f_,f_,f_,f_,f_] HT_ HW_ hHeld ?_ (hv := by rintro w' ⟨s0, s1, s2, s3, s4, s5, s6, s7⟩; go_simp; with_reducible rfl)
  refine tk 6 15 #[t_,t_,t_,f_,t_,t_,t_,f_,f_,f_,f_,f_,f_,f_,f_,f_,f_,f_,f_,f_,f_,f_,f_] HT_ HW_ hHeld ?_ (hv := by rintro w' ⟨s0, s1, s2, s3, s4, s5, s6, s7⟩; go_simp; with_reducible rfl)
  refine one_ (i := 3) (N := some 12) #[t_,t_,t_,t_,t_,t_,t_,f_,f_,f_,f_,f_,f_,f_,f_,f_,f_,f_,f_,f_,f_,f_,f_] rfl rfl (bh_ HT_.out (by kernel_rfl)) (by decide) (fun K hK => ?_)
  (first | refine goes_ Try.func81 (by kernel_rfl) rfl #[.agg #[.int .i64 a0_0, .int .i64 a0_1], .agg #[.int .i64 a1_0, .int .i64 a1_1], .agg #[.int .i64 a2_0, .int .i64 a2_1]] (by rfl) rfl rfl (by first | rfl | (simp only [lma_, lmc_, lmn_]; first | done | rfl)) ?_ | refine RPW.by_ Try.func81 (by kernel_rfl) rfl #[.agg #[.int .i64 a0_0, .int .i64 a0_1], .agg #[.int .i64 a1_0, .int .i64 a1_1], .agg #[.int .i64 a2_0, .int .i64 a2_1]] (by rfl) rfl rfl rfl (by first | rfl | (simp only [lma_, lmc_, lmn_]; first | done | rfl)) ?_ | refine RPW.bz_ Try.func81 (by kernel_rfl) rfl #[.agg #[.int .i64 a0_0, .int .i64 a0_1], .agg #[.int .i64 a1_0, .int .i64 a1_1], .agg #[.int .i64 a2_0, .int .i64 a2_1]] (by rfl) rfl rfl rfl (by first | rfl | (simp only [lma_, lmc_, lmn_]; first | done | rfl)) ?_)
  with_reducible refine (bF_.calls a0_0 a0_1 a1_0 a1_1 a2_0 a2_1 t105 _ A5.out).mono ?_
  rintro e w24 ⟨rfl, hb⟩
  refine ⟨_, rfl, ?_⟩
  have n0_ := Aside0.mk (aa_ (kz BK101.out) hb)
  have n1_ := Aside0.mk (aa_ (kz BK102.out) hb)
  have n2_ := Aside0.mk (aa_ (kz BK103.out) hb)
  have n3_ := Aside0.mk (aa_ (kz BK104.out) hb)
  have n4_ := Aside0.mk (ad_ (bq) hb)
  clear BK101
  clear BK102
  clear BK103
  clear BK104
  clear HB
  have BK101 := n0_
  have BK102 := n1_
  have BK103 := n2_
  have BK104 := n3_
  have HB := n4_
  clear n0_ n1_ n2_ n3_ n4_
  (try clear hb)
  refine hK.out _ _ ⟨(ac_ BK101.out 0).trans rfl, (ac_ BK101.out 1).trans rfl, (ac_ BK102.out 0).trans rfl, (ac_ BK102.out 1).trans rfl, (ac_ BK103.out 0).trans rfl, (ac_ BK103.out 1).trans rfl, (ac_ BK104.out 0).trans rfl, (ac_ BK104.out 1).trans rfl⟩ (fun hHeld => ?_)
  clear hK K
  refine norm_ (a' := ?_) ?_ ?_
  rotate_left
  ·show Act.put _ (some 12) _ = _
   simp only [Act.put, lsa_, ls0_, ls1_, i64_w, i32_w]
   rfl
  refine one_ (i := 7) (N := some 16) #[t_,t_,t_,t_,t_,t_,t_,t_,f_,f_,f_,f_,f_,f_,f_,f_,f_,f_,f_,f_,f_,f_,f_] rfl rfl (bh_ HT_.out (by kernel_rfl)) (by decide) (fun K hK => ?_)
  (first | refine goes_ Try.func81 (by kernel_rfl) rfl #[.agg #[.int .i64 a0_0, .int .i64 a0_1], .agg #[.int .i64 a1_0, .int .i64 a1_1], .agg #[.int .i64 a3_0, .int .i64 a3_1]] (by rfl) rfl rfl (by first | rfl | (simp only [lma_, lmc_, lmn_]; first | done | rfl)) ?_ | refine RPW.by_ Try.func81 (by kernel_rfl) rfl #[.agg #[.int .i64 a0_0, .int .i64 a0_1], .agg #[.int .i64 a1_0, .int .i64 a1_1], .agg #[.int .i64 a3_0, .int .i64 a3_1]] (by rfl) rfl rfl rfl (by first | rfl | (simp only [lma_, lmc_, lmn_]; first | done | rfl)) ?_ | refine RPW.bz_ Try.func81 (by kernel_rfl) rfl #[.agg #[.int .i64 a0_0, .int .i64 a0_1], .agg #[.int .i64 a1_0, .int .i64 a1_1], .agg #[.int .i64 a3_0, .int .i64 a3_1]] (by rfl) rfl rfl rfl (by first | rfl | (simp only [lma_, lmc_, lmn_]; first | done | rfl)) ?_)
  with_reducible refine (bF_.calls a0_0 a0_1 a1_0 a1_1 a3_0 a3_1 t106 _ A6.out).mono ?_
  rintro e w25 ⟨rfl, hb⟩
  refine ⟨_, rfl, ?_⟩
  have n0_ := Aside0.mk (aa_ (kz BK101.out) hb)
  have n1_ := Aside0.mk (aa_ (kz BK102.out) hb)
  have n2_ := Aside0.mk (aa_ (kz BK103.out) hb)
  have n3_ := Aside0.mk (aa_ (kz BK104.out) hb)
  have n4_ := Aside0.mk (ad_ (bq) hb)
  clear BK101
  clear BK102
  clear BK103
  clear BK104
  clear HB
  have BK101 := n0_
  have BK102 := n1_
  have BK103 := n2_
  have BK104 := n3_
  have HB := n4_
  clear n0_ n1_ n2_ n3_ n4_
  (try clear hb)
  refine hK.out _ _ ⟨(ac_ BK101.out 0).trans rfl, (ac_ BK101.out 1).trans rfl, (ac_ BK102.out 0).trans rfl, (ac_ BK102.out 1).trans rfl, (ac_ BK103.out 0).trans rfl, (ac_ BK103.out 1).trans rfl, (ac_ BK104.out 0).trans rfl, (ac_ BK104.out 1).trans rfl⟩ (fun hHeld => ?_)
  clear hK K
  refine norm_ (a' := ?_) ?_ ?_
  rotate_left
  ·show Act.put _ (some 16) _ = _
   simp only [Act.put, lsa_, ls0_, ls1_, i64_w, i32_w]
   rfl
  refine pu 8 17 #[t_,t_,t_,t_,t_,t_,t_,t_,t_,f_,f_,f_,f_,f_,f_,f_,f_,f_,f_,f_,f_,f_,f_] HT_ ?_
  refine pu 9 18 #[t_,t_,t_,t_,t_,t_,t_,t_,t_,t_,f_,f_,f_,f_,f_,f_,f_,f_,f_,f_,f_,f_,f_] HT_ ?_
  refine pu 10 19 #[t_,t_,t_,t_,t_,t_,t_,t_,t_,t_,t_,f_,f_,f_,f_,f_,f_,f_,f_,f_,f_,f_,f_] HT_ ?_
  refine pn 11 20 #[t_,t_,t_,t_,t_,t_,t_,t_,t_,t_,t_,t_,f_,f_,f_,f_,f_,f_,f_,f_,f_,f_,f_] HT_ ?_
  refine pn 12 21 #[t_,t_,t_,t_,t_,t_,t_,t_,t_,t_,t_,t_,t_,f_,f_,f_,f_,f_,f_,f_,f_,f_,f_] HT_ ?_
  refine pn 13 22 #[t_,t_,t_,t_,t_,t_,t_,t_,t_,t_,t_,t_,t_,t_,f_,f_,f_,f_,f_,f_,f_,f_,f_] HT_ ?_
  refine pn 14 23 #[t_,t_,t_,t_,t_,t_,t_,t_,t_,t_,t_,t_,t_,t_,t_,f_,f_,f_,f_,f_,f_,f_,f_] HT_ ?_
  refine pn 15 24 #[t_,t_,t_,t_,t_,t_,t_,t_,t_,t_,t_,t_,t_,t_,t_,t_,f_,f_,f_,f_,f_,f_,f_] HT_ ?_
  refine pn 16 25 #[t_,t_,t_,t_,t_,t_,t_,t_,t_,t_,t_,t_,t_,t_,t_,t_,t_,f_,f_,f_,f_,f_,f_] HT_ ?_
  refine pn 17 26 #[t_,t_,t_,t_,t_,t_,t_,t_,t_,t_,t_,t_,t_,t_,t_,t_,t_,t_,f_,f_,f_,f_,f_] HT_ ?_
  refine pn 18 27 #[t_,t_,t_,t_,t_,t_,t_,t_,t_,t_,t_,t_,t_,t_,t_,t_,t_,t_,t_,f_,f_,f_,f_] HT_ ?_
  refine pn 19 28 #[t_,t_,t_,t_,t_,t_,t_,t_,t_,t_,t_,t_,t_,t_,t_,t_,t_,t_,t_,t_,f_,f_,f_] HT_ ?_
  refine pn 20 29 #[t_,t_,t_,t_,t_,t_,t_,t_,t_,t_,t_,t_,t_,t_,t_,t_,t_,t_,t_,t_,t_,f_,f_] HT_ ?_
  refine pu 21 30 #[t_,t_,t_,t_,t_,t_,t_,t_,t_,t_,t_,t_,t_,t_,t_,t_,t_,t_,t_,t_,t_,t_,f_] HT_ ?_
  refine pu 22 8 #[t_,t_,t_,t_,t_,t_,t_,t_,t_,t_,t_,t_,t_,t_,t_,t_,t_,t_,t_,t_,t_,t_,t_] HT_ ?_
  refine done_ (bS_ HT_.out (by kernel_rfl)) ?_
  try go_wp2
  go_ret
  exact ⟨by first | rfl | (simp [*, ah_, ai_] <;> rfl), bq⟩
 rw [if_pos c7] at H
 have c7b0 : decide ((wrap64 (t105 * t106)) < 0) = true := decide_eq_true c7
 clear c7
 replace H := Option.bind_eq_some_iff.mp H
 obtain ⟨t107, A80, H⟩ := H
 (try dsimp only at H)
 have A8 := Aside0.mk A80
 clear A80
 replace H := Option.bind_eq_some_iff.mp H
 obtain ⟨t108, A90, H⟩ := H
 (try dsimp only at H)
 have A9 := Aside0.mk A90
 clear A90
 obtain rfl := Option.some.inj H
 go_enter Try.func82, Try.ntmps82
 try go_wp2_with (first | ((with_reducible refine al_ (N := 4) rfl ?_); refine ak_ ?hg (N := 4) ?hd (cs := #[.int .i64 a0_0, .int .i64 a0_1]) (t := 81) ?hr ?_; (case hd => rfl); (case hg => rfl); (case hr => (go_simp; try rfl)); intro gb101 hg w10 hbox hb; have BK101 := Aside0.mk (hbox); have GW101 := Aside0.mk ((by rw [hg]; exact (ae_ (bz HB.out)) : w.heap.size ≤ gb101)); have GE101 := GW101; replace HB := Aside0.mk (ad_ (bz HB.out) hb); clear hb hbox hg) | ((with_reducible refine al_ (N := 5) rfl ?_); refine ak_ ?hg (N := 5) ?hd (cs := #[.int .i64 a1_0, .int .i64 a1_1]) (t := 81) ?hr ?_; (case hd => rfl); (case hg => rfl); (case hr => (go_simp; try rfl)); intro gb102 hg w11 hbox hb; have BK102 := Aside0.mk (hbox); have GW102 := Aside0.mk ((by rw [hg]; exact (ae_ (bq)) : w.heap.size ≤ gb102)); have GE102 := GW102; replace HB := Aside0.mk (ad_ (bq) hb); have NB101_102 := Aside0.mk ((by rw [hg]; exact Nat.ne_of_lt (aj_ (kz BK101.out)) : gb101 ≠ gb102)); have NB102_101 := Aside0.mk ((by rw [hg]; exact Nat.ne_of_gt (aj_ (kz BK101.out)) : gb102 ≠ gb101)); replace BK101 := Aside0.mk (aa_ (kz BK101.out) hb); clear hb hbox hg) | ((with_reducible refine al_ (N := 6) rfl ?_); refine ak_ ?hg (N := 6) ?hd (cs := #[.int .i64 a2_0, .int .i64 a2_1]) (t := 81) ?hr ?_; (case hd => rfl); (case hg => rfl); (case hr => (go_simp; try rfl)); intro gb103 hg w12 hbox hb; have BK103 := Aside0.mk (hbox); have GW103 := Aside0.mk ((by rw [hg]; exact (ae_ (bq)) : w.heap.size ≤ gb103)); have GE103 := GW103; replace HB := Aside0.mk (ad_ (bq) hb); have NB101_103 := Aside0.mk ((by rw [hg]; exact Nat.ne_of_lt (aj_ (kz BK101.out)) : gb101 ≠ gb103)); have NB103_101 := Aside0.mk ((by rw [hg]; exact Nat.ne_of_gt (aj_ (kz BK101.out)) : gb103 ≠ gb101)); replace BK101 := Aside0.mk (aa_ (kz BK101.out) hb); have NB102_103 := Aside0.mk ((by rw [hg]; exact Nat.ne_of_lt (aj_ (kz BK102.out)) : gb102 ≠ gb103)); have NB103_102 := Aside0.mk ((by rw [hg]; exact Nat.ne_of_gt (aj_ (kz BK102.out)) : gb103 ≠ gb102)); replace BK102 := Aside0.mk (aa_ (kz BK102.out) hb); clear hb hbox hg) | ((with_reducible refine al_ (N := 7) rfl ?_); refine ak_ ?hg (N := 7) ?hd (cs := #[.int .i64 a3_0, .int .i64 a3_1]) (t := 81) ?hr ?_; (case hd => rfl); (case hg => rfl); (case hr => (go_simp; try rfl)); intro gb104 hg w13 hbox hb; have BK104 := Aside0.mk (hbox); have GW104 := Aside0.mk ((by rw [hg]; exact (ae_ (bq)) : w.heap.size ≤ gb104)); have GE104 := GW104; replace HB := Aside0.mk (ad_ (bq) hb); have NB101_104 := Aside0.mk ((by rw [hg]; exact Nat.ne_of_lt (aj_ (kz BK101.out)) : gb101 ≠ gb104)); have NB104_101 := Aside0.mk ((by rw [hg]; exact Nat.ne_of_gt (aj_ (kz BK101.out)) : gb104 ≠ gb101)); replace BK101 := Aside0.mk (aa_ (kz BK101.out) hb); have NB102_104 := Aside0.mk ((by rw [hg]; exact Nat.ne_of_lt (aj_ (kz BK102.out)) : gb102 ≠ gb104)); have NB104_102 := Aside0.mk ((by rw [hg]; exact Nat.ne_of_gt (aj_ (kz BK102.out)) : gb104 ≠ gb102)); replace BK102 := Aside0.mk (aa_ (kz BK102.out) hb); have NB103_104 := Aside0.mk ((by rw [hg]; exact Nat.ne_of_lt (aj_ (kz BK103.out)) : gb103 ≠ gb104)); have NB104_103 := Aside0.mk ((by rw [hg]; exact Nat.ne_of_gt (aj_ (kz BK103.out)) : gb104 ≠ gb103)); replace BK103 := Aside0.mk (aa_ (kz BK103.out) hb); clear hb hbox hg))
 have n0_ := Aside0.mk (av_ BK101.out)
 have n1_ := Aside0.mk (av_ BK102.out)
 have n2_ := Aside0.mk (av_ BK103.out)
 have n3_ := Aside0.mk (av_ BK104.out)
 have n4_ := Aside0.mk (bD_ HB.out)
 clear BK101
 clear BK102
 clear BK103
 clear BK104
 clear HB
 have BK101 := n0_
 have BK102 := n1_
 have BK103 := n2_
 have BK104 := n3_
 have HB := n4_
 clear n0_ n1_ n2_ n3_ n4_
 refine cl_ (n := 23) (S := fun w' => w'.cell? ⟨gb101, 0, none⟩ = some (.int .i64 a0_0) ∧ w'.cell? ⟨gb101, 1, none⟩ = some (.int .i64 a0_1) ∧ w'.cell? ⟨gb102, 0, none⟩ = some (.int .i64 a1_0) ∧ w'.cell? ⟨gb102, 1, none⟩ = some (.int .i64 a1_1) ∧ w'.cell? ⟨gb103, 0, none⟩ = some (.int .i64 a2_0) ∧ w'.cell? ⟨gb103, 1, none⟩ = some (.int .i64 a2_1) ∧ w'.cell? ⟨gb104, 0, none⟩ = some (.int .i64 a3_0) ∧ w'.cell? ⟨gb104, 1, none⟩ = some (.int .i64 a3_1)) (ds := []) #[f_,f_,f_,f_,f_,f_,f_,f_,f_,f_,f_,f_,f_,f_,f_,f_,f_,f_,f_,f_,f_,f_,f_] (by kernel_rfl) rfl rfl ⟨(ac_ BK101.out 0).trans rfl, (ac_ BK101.out 1).trans rfl, (ac_ BK102.out 0).trans rfl, (ac_ BK102.out 1).trans rfl, (ac_ BK103.out 0).trans rfl, (ac_ BK103.out 1).trans rfl, (ac_ BK104.out 0).trans rfl, (ac_ BK104.out 1).trans rfl⟩ (fun hHeld => ?_); refine bo_ be_.tab1 be_.bits1 (fun HT_ HW_ => ?_)
 generalize w13.drew = w14 at BK101 BK102 BK103 BK104 HB hHeld ⊢
 refine tk 0 9 #[t_,f_,f_,f_,f_,f_,f_,f_,f_,f_,f_,f_,f_,f_,f_,f_,f_,f_,f_,f_,f_,f_,f_] HT_ HW_ hHeld ?_ (hv := by rintro w' ⟨s0, s1, s2, s3, s4, s5, s6, s7⟩; go_simp; with_reducible rfl)
 refine tk 1 10 #[t_,t_,f_,f_,f_,f_,f_,f_,f_,f_,f_,f_,f_,f_,f_,f_,f_,f_,f_,f_,f_,f_,f_] HT_ HW_ hHeld ?_ (hv := by rintro w' ⟨s0, s1, s2, s3, s4, s5, s6, s7⟩; go_simp; with_reducible rfl)
 refine tk 2 11 #[t_,t_,t_,f_,f_,f_,f_,f_,f_,f_,f_,f_,f_,f_,f_,f_,f_,f_,f_,f_,f_,f_,f_] HT_ HW_ hHeld ?_ (hv := by rintro w' ⟨s0, s1, s2, s3, s4, s5, s6, s7⟩; go_simp; with_reducible rfl)
 refine tk 4 13 #[t_,t_,t_,f_,t_,f_,f_,f_,f_,f_,f_,f_,f_,f_,f_,f_,f_,f_,f_,f_,f_,f_,f_] HT_ HW_ hHeld ?_ (hv := by rintro w' ⟨s0, s1, s2, s3, s4, s5, s6, s7⟩; go_simp; with_reducible rfl)
 refine tk 5 14 #[t_,t_,t_,f_,t_,t_,f_,f_,f_,f_,f_,f_,f_,f_,f_,f_,f_,f_,f_,f_,f_,f_,f_] HT_ HW_ hHeld ?_ (hv := by rintro w' ⟨s0, s1, s2, s3, s4, s5, s6, s7⟩; go_simp; with_reducible rfl)
 refine tk 6 15 #[t_,t_,t_,f_,t_,t_,t_,f_,f_,f_,f_,f_,f_,f_,f_,f_,f_,f_,f_,f_,f_,f_,f_] HT_ HW_ hHeld ?_ (hv := by rintro w' ⟨s0, s1, s2, s3, s4, s5, s6, s7⟩; go_simp; with_reducible rfl)
 refine one_ (i := 3) (N := some 12) #[t_,t_,t_,t_,t_,t_,t_,f_,f_,f_,f_,f_,f_,f_,f_,f_,f_,f_,f_,f_,f_,f_,f_] rfl rfl (bh_ HT_.out (by kernel_rfl)) (by decide) (fun K hK => ?_)
 (first | refine goes_ Try.func81 (by kernel_rfl) rfl #[.agg #[.int .i64 a0_0, .int .i64 a0_1], .agg #[.int .i64 a1_0, .int .i64 a1_1], .agg #[.int .i64 a2_0, .int .i64 a2_1]] (by rfl) rfl rfl (by first | rfl | (simp only [lma_, lmc_, lmn_]; first | done | rfl)) ?_ | refine RPW.by_ Try.func81 (by kernel_rfl) rfl #[.agg #[.int .i64 a0_0, .int .i64 a0_1], .agg #[.int .i64 a1_0, .int .i64 a1_1], .agg #[.int .i64 a2_0, .int .i64 a2_1]] (by rfl) rfl rfl rfl (by first | rfl | (simp only [lma_, lmc_, lmn_]; first | done | rfl)) ?_ | refine RPW.bz_ Try.func81 (by kernel_rfl) rfl #[.agg #[.int .i64 a0_0, .int .i64 a0_1], .agg #[.int .i64 a1_0, .int .i64 a1_1], .agg #[.int .i64 a2_0, .int .i64 a2_1]] (by rfl) rfl rfl rfl (by first | rfl | (simp only [lma_, lmc_, lmn_]; first | done | rfl)) ?_)
 with_reducible refine (bF_.calls a0_0 a0_1 a1_0 a1_1 a2_0 a2_1 t105 _ A5.out).mono ?_
 rintro e w15 ⟨rfl, hb⟩
 refine ⟨_, rfl, ?_⟩
 have n0_ := Aside0.mk (aa_ (kz BK101.out) hb)
 have n1_ := Aside0.mk (aa_ (kz BK102.out) hb)
 have n2_ := Aside0.mk (aa_ (kz BK103.out) hb)
 have n3_ := Aside0.mk (aa_ (kz BK104.out) hb)
 have n4_ := Aside0.mk (ad_ (bq) hb)
 clear BK101
 clear BK102
 clear BK103
 clear BK104
 clear HB
 have BK101 := n0_
 have BK102 := n1_
 have BK103 := n2_
 have BK104 := n3_
 have HB := n4_
 clear n0_ n1_ n2_ n3_ n4_
 (try clear hb)
 refine hK.out _ _ ⟨(ac_ BK101.out 0).trans rfl, (ac_ BK101.out 1).trans rfl, (ac_ BK102.out 0).trans rfl, (ac_ BK102.out 1).trans rfl, (ac_ BK103.out 0).trans rfl, (ac_ BK103.out 1).trans rfl, (ac_ BK104.out 0).trans rfl, (ac_ BK104.out 1).trans rfl⟩ (fun hHeld => ?_)
 clear hK K
 refine norm_ (a' := ?_) ?_ ?_
 rotate_left
 ·show Act.put _ (some 12) _ = _
  simp only [Act.put, lsa_, ls0_, ls1_, i64_w, i32_w]
  rfl
 refine one_ (i := 7) (N := some 16) #[t_,t_,t_,t_,t_,t_,t_,t_,f_,f_,f_,f_,f_,f_,f_,f_,f_,f_,f_,f_,f_,f_,f_] rfl rfl (bh_ HT_.out (by kernel_rfl)) (by decide) (fun K hK => ?_)
 (first | refine goes_ Try.func81 (by kernel_rfl) rfl #[.agg #[.int .i64 a0_0, .int .i64 a0_1], .agg #[.int .i64 a1_0, .int .i64 a1_1], .agg #[.int .i64 a3_0, .int .i64 a3_1]] (by rfl) rfl rfl (by first | rfl | (simp only [lma_, lmc_, lmn_]; first | done | rfl)) ?_ | refine RPW.by_ Try.func81 (by kernel_rfl) rfl #[.agg #[.int .i64 a0_0, .int .i64 a0_1], .agg #[.int .i64 a1_0, .int .i64 a1_1], .agg #[.int .i64 a3_0, .int .i64 a3_1]] (by rfl) rfl rfl rfl (by first | rfl | (simp only [lma_, lmc_, lmn_]; first | done | rfl)) ?_ | refine RPW.bz_ Try.func81 (by kernel_rfl) rfl #[.agg #[.int .i64 a0_0, .int .i64 a0_1], .agg #[.int .i64 a1_0, .int .i64 a1_1], .agg #[.int .i64 a3_0, .int .i64 a3_1]] (by rfl) rfl rfl rfl (by first | rfl | (simp only [lma_, lmc_, lmn_]; first | done | rfl)) ?_)
 with_reducible refine (bF_.calls a0_0 a0_1 a1_0 a1_1 a3_0 a3_1 t106 _ A6.out).mono ?_
 rintro e w16 ⟨rfl, hb⟩
 refine ⟨_, rfl, ?_⟩
 have n0_ := Aside0.mk (aa_ (kz BK101.out) hb)
 have n1_ := Aside0.mk (aa_ (kz BK102.out) hb)
 have n2_ := Aside0.mk (aa_ (kz BK103.out) hb)
 have n3_ := Aside0.mk (aa_ (kz BK104.out) hb)
 have n4_ := Aside0.mk (ad_ (bq) hb)
 clear BK101
 clear BK102
 clear BK103
 clear BK104
 clear HB
 have BK101 := n0_
 have BK102 := n1_
 have BK103 := n2_
 have BK104 := n3_
 have HB := n4_
 clear n0_ n1_ n2_ n3_ n4_
 (try clear hb)
 refine hK.out _ _ ⟨(ac_ BK101.out 0).trans rfl, (ac_ BK101.out 1).trans rfl, (ac_ BK102.out 0).trans rfl, (ac_ BK102.out 1).trans rfl, (ac_ BK103.out 0).trans rfl, (ac_ BK103.out 1).trans rfl, (ac_ BK104.out 0).trans rfl, (ac_ BK104.out 1).trans rfl⟩ (fun hHeld => ?_)
 clear hK K
 refine norm_ (a' := ?_) ?_ ?_
 rotate_left
 ·show Act.put _ (some 16) _ = _
  simp only [Act.put, lsa_, ls0_, ls1_, i64_w, i32_w]
  rfl
 refine pu 8 17 #[t_,t_,t_,t_,t_,t_,t_,t_,t_,f_,f_,f_,f_,f_,f_,f_,f_,f_,f_,f_,f_,f_,f_] HT_ ?_
 refine pu 9 18 #[t_,t_,t_,t_,t_,t_,t_,t_,t_,t_,f_,f_,f_,f_,f_,f_,f_,f_,f_,f_,f_,f_,f_] HT_ ?_
 refine pu 10 19 #[t_,t_,t_,t_,t_,t_,t_,t_,t_,t_,t_,f_,f_,f_,f_,f_,f_,f_,f_,f_,f_,f_,f_] HT_ ?_
 refine tk 11 20 #[t_,t_,t_,t_,t_,t_,t_,t_,t_,t_,t_,t_,f_,f_,f_,f_,f_,f_,f_,f_,f_,f_,f_] HT_ HW_ hHeld ?_ (hv := by rintro w' ⟨s0, s1, s2, s3, s4, s5, s6, s7⟩; go_simp; with_reducible rfl)
 refine tk 12 21 #[t_,t_,t_,t_,t_,t_,t_,t_,t_,t_,t_,t_,t_,f_,f_,f_,f_,f_,f_,f_,f_,f_,f_] HT_ HW_ hHeld ?_ (hv := by rintro w' ⟨s0, s1, s2, s3, s4, s5, s6, s7⟩; go_simp; with_reducible rfl)
 refine tk 13 22 #[t_,t_,t_,t_,t_,t_,t_,t_,t_,t_,t_,t_,t_,t_,f_,f_,f_,f_,f_,f_,f_,f_,f_] HT_ HW_ hHeld ?_ (hv := by rintro w' ⟨s0, s1, s2, s3, s4, s5, s6, s7⟩; go_simp; with_reducible rfl)
 refine tk 15 24 #[t_,t_,t_,t_,t_,t_,t_,t_,t_,t_,t_,t_,t_,t_,f_,t_,f_,f_,f_,f_,f_,f_,f_] HT_ HW_ hHeld ?_ (hv := by rintro w' ⟨s0, s1, s2, s3, s4, s5, s6, s7⟩; go_simp; with_reducible rfl)
 refine tk 16 25 #[t_,t_,t_,t_,t_,t_,t_,t_,t_,t_,t_,t_,t_,t_,f_,t_,t_,f_,f_,f_,f_,f_,f_] HT_ HW_ hHeld ?_ (hv := by rintro w' ⟨s0, s1, s2, s3, s4, s5, s6, s7⟩; go_simp; with_reducible rfl)
 refine tk 17 26 #[t_,t_,t_,t_,t_,t_,t_,t_,t_,t_,t_,t_,t_,t_,f_,t_,t_,t_,f_,f_,f_,f_,f_] HT_ HW_ hHeld ?_ (hv := by rintro w' ⟨s0, s1, s2, s3, s4, s5, s6, s7⟩; go_simp; with_reducible rfl)
 refine one_ (i := 14) (N := some 23) #[t_,t_,t_,t_,t_,t_,t_,t_,t_,t_,t_,t_,t_,t_,t_,t_,t_,t_,f_,f_,f_,f_,f_] rfl rfl (bh_ HT_.out (by kernel_rfl)) (by decide) (fun K hK => ?_)
 (first | refine goes_ Try.func81 (by kernel_rfl) rfl #[.agg #[.int .i64 a2_0, .int .i64 a2_1], .agg #[.int .i64 a3_0, .int .i64 a3_1], .agg #[.int .i64 a0_0, .int .i64 a0_1]] (by rfl) rfl rfl (by first | rfl | (simp only [lma_, lmc_, lmn_]; first | done | rfl)) ?_ | refine RPW.by_ Try.func81 (by kernel_rfl) rfl #[.agg #[.int .i64 a2_0, .int .i64 a2_1], .agg #[.int .i64 a3_0, .int .i64 a3_1], .agg #[.int .i64 a0_0, .int .i64 a0_1]] (by rfl) rfl rfl rfl (by first | rfl | (simp only [lma_, lmc_, lmn_]; first | done | rfl)) ?_ | refine RPW.bz_ Try.func81 (by kernel_rfl) rfl #[.agg #[.int .i64 a2_0, .int .i64 a2_1], .agg #[.int .i64 a3_0, .int .i64 a3_1], .agg #[.int .i64 a0_0, .int .i64 a0_1]] (by rfl) rfl rfl rfl (by first | rfl | (simp only [lma_, lmc_, lmn_]; first | done | rfl)) ?_)
 with_reducible refine (bF_.calls a2_0 a2_1 a3_0 a3_1 a0_0 a0_1 t107 _ A8.out).mono ?_
 rintro e w17 ⟨rfl, hb⟩
 refine ⟨_, rfl, ?_⟩
 have n0_ := Aside0.mk (aa_ (kz BK101.out) hb)
 have n1_ := Aside0.mk (aa_ (kz BK102.out) hb)
 have n2_ := Aside0.mk (aa_ (kz BK103.out) hb)
 have n3_ := Aside0.mk (aa_ (kz BK104.out) hb)
 have n4_ := Aside0.mk (ad_ (bq) hb)
 clear BK101
 clear BK102
 clear BK103
 clear BK104
 clear HB
 have BK101 := n0_
 have BK102 := n1_
 have BK103 := n2_
 have BK104 := n3_
 have HB := n4_
 clear n0_ n1_ n2_ n3_ n4_
 (try clear hb)
 refine hK.out _ _ ⟨(ac_ BK101.out 0).trans rfl, (ac_ BK101.out 1).trans rfl, (ac_ BK102.out 0).trans rfl, (ac_ BK102.out 1).trans rfl, (ac_ BK103.out 0).trans rfl, (ac_ BK103.out 1).trans rfl, (ac_ BK104.out 0).trans rfl, (ac_ BK104.out 1).trans rfl⟩ (fun hHeld => ?_)
 clear hK K
 refine norm_ (a' := ?_) ?_ ?_
 rotate_left
 ·show Act.put _ (some 23) _ = _
  simp only [Act.put, lsa_, ls0_, ls1_, i64_w, i32_w]
  rfl
 refine one_ (i := 18) (N := some 27) #[t_,t_,t_,t_,t_,t_,t_,t_,t_,t_,t_,t_,t_,t_,t_,t_,t_,t_,t_,f_,f_,f_,f_] rfl rfl (bh_ HT_.out (by kernel_rfl)) (by decide) (fun K hK => ?_)
 (first | refine goes_ Try.func81 (by kernel_rfl) rfl #[.agg #[.int .i64 a2_0, .int .i64 a2_1], .agg #[.int .i64 a3_0, .int .i64 a3_1], .agg #[.int .i64 a1_0, .int .i64 a1_1]] (by rfl) rfl rfl (by first | rfl | (simp only [lma_, lmc_, lmn_]; first | done | rfl)) ?_ | refine RPW.by_ Try.func81 (by kernel_rfl) rfl #[.agg #[.int .i64 a2_0, .int .i64 a2_1], .agg #[.int .i64 a3_0, .int .i64 a3_1], .agg #[.int .i64 a1_0, .int .i64 a1_1]] (by rfl) rfl rfl rfl (by first | rfl | (simp only [lma_, lmc_, lmn_]; first | done | rfl)) ?_ | refine RPW.bz_ Try.func81 (by kernel_rfl) rfl #[.agg #[.int .i64 a2_0, .int .i64 a2_1], .agg #[.int .i64 a3_0, .int .i64 a3_1], .agg #[.int .i64 a1_0, .int .i64 a1_1]] (by rfl) rfl rfl rfl (by first | rfl | (simp only [lma_, lmc_, lmn_]; first | done | rfl)) ?_)
 with_reducible refine (bF_.calls a2_0 a2_1 a3_0 a3_1 a1_0 a1_1 t108 _ A9.out).mono ?_
 rintro e w18 ⟨rfl, hb⟩
 refine ⟨_, rfl, ?_⟩
 have n0_ := Aside0.mk (aa_ (kz BK101.out) hb)
 have n1_ := Aside0.mk (aa_ (kz BK102.out) hb)
 have n2_ := Aside0.mk (aa_ (kz BK103.out) hb)
 have n3_ := Aside0.mk (aa_ (kz BK104.out) hb)
 have n4_ := Aside0.mk (ad_ (bq) hb)
 clear BK101
 clear BK102
 clear BK103
 clear BK104
 clear HB
 have BK101 := n0_
 have BK102 := n1_
 have BK103 := n2_
 have BK104 := n3_
 have HB := n4_
 clear n0_ n1_ n2_ n3_ n4_
 (try clear hb)
 refine hK.out _ _ ⟨(ac_ BK101.out 0).trans rfl, (ac_ BK101.out 1).trans rfl, (ac_ BK102.out 0).trans rfl, (ac_ BK102.out 1).trans rfl, (ac_ BK103.out 0).trans rfl, (ac_ BK103.out 1).trans rfl, (ac_ BK104.out 0).trans rfl, (ac_ BK104.out 1).trans rfl⟩ (fun hHeld => ?_)
 clear hK K
 refine norm_ (a' := ?_) ?_ ?_
 rotate_left
 ·show Act.put _ (some 27) _ = _
  simp only [Act.put, lsa_, ls0_, ls1_, i64_w, i32_w]
  rfl
 refine pu 19 28 #[t_,t_,t_,t_,t_,t_,t_,t_,t_,t_,t_,t_,t_,t_,t_,t_,t_,t_,t_,t_,f_,f_,f_] HT_ ?_
 refine pu 20 29 #[t_,t_,t_,t_,t_,t_,t_,t_,t_,t_,t_,t_,t_,t_,t_,t_,t_,t_,t_,t_,t_,f_,f_] HT_ ?_
 refine pu 21 30 #[t_,t_,t_,t_,t_,t_,t_,t_,t_,t_,t_,t_,t_,t_,t_,t_,t_,t_,t_,t_,t_,t_,f_] HT_ ?_
 refine pu 22 8 #[t_,t_,t_,t_,t_,t_,t_,t_,t_,t_,t_,t_,t_,t_,t_,t_,t_,t_,t_,t_,t_,t_,t_] HT_ ?_
 refine done_ (bS_ HT_.out (by kernel_rfl)) ?_
 try go_wp2
 go_ret
 exact ⟨by first | rfl | (simp [*, ah_, ai_] <;> rfl), bq⟩
end Go.Proofs.Ytpjhnchfhghlcaa.Q
