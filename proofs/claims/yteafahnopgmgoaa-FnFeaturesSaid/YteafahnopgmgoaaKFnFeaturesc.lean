/- For all drawn features: distances are symmetric and satisfy the inequality of triangles, and the ranked features begin with the nearest one (FnFeatures). Conditions: none beyond the statement. This text holds the functions' walks and the words for them. -/
import Derived.Test.YteafahnopgmgoaaKFnFeaturesa
import Derived.Test.YteafahnopgmgoaaKFnFeaturesb
set_option linter.unusedVariables false
set_option linter.unusedSimpArgs false
namespace Go.Proofs.Yteafahnopgmgoaa.Q
open Go.RowKit Go.Proofs.YteafahnopgmgoaaW.PrintWords Go.Proofs.YteafahnopgmgoaaW.PrintLast Go.Proofs.YteafahnopgmgoaaW.PrintMore
attribute [local go_sem] aY_ aW_ br_ bq_ aR_ aQ_ aZ_ aX_
mutual
def ab_.l0 : Nat → List Int → Int → Int → Int → List (List (S28)) → List (S28) → Option (List Int)
 | 0, _, _, _, _, _, _ => none
 | k + 1, x0, x1, x2, x8, x530, x531 => if x8 < x2 then (ab_.l1 k x0 x1 x2 x8 x8 x530 x531) else (some x0)
def ab_.l1 : Nat → List Int → Int → Int → Int → Int → List (List (S28)) → List (S28) → Option (List Int)
 | 0, _, _, _, _, _, _, _ => none
 | k + 1, x0, x1, x2, x8, x9, x530, x531 => if x9 > x1 then (if 0 ≤ x9 then (if x9 < (x0.length : Int) then (if 0 ≤ (wrap64 (x9 - 1)) then (if (wrap64 (x9 - 1)) < (x0.length : Int) then ((aP_.f k (rd x0 x9) (rd x0 (wrap64 (x9 - 1))) x530 x531).bind fun t103 => (if t103 < 0 then (ab_.l1 k ((x0.set (x9 : Int).toNat (rd x0 (wrap64 (x9 - 1)))).set ((wrap64 (x9 - 1)) : Int).toNat (rd x0 x9)) x1 x2 x8 (wrap64 (x9 - 1)) x530 x531) else (ab_.l0 k x0 x1 x2 (wrap64 (x8 + 1)) x530 x531))) else (none)) else (none)) else (none)) else (none)) else (ab_.l0 k x0 x1 x2 (wrap64 (x8 + 1)) x530 x531)
end
def ab_.f (k : Nat) (l0 : List Int) (a1 : Int) (a2 : Int) (l3c0 : List (List (S28))) (l3c1 : List (S28)) : Option (List Int) := ab_.l0 k l0 a1 a2 (wrap64 (a1 + 1)) l3c0 l3c1
def ab_.T4 : Bool × List (List Nat × List Nat) := (true, [([], []), ([], []), ([0, 1], [0, 1]), ([2], [2]), ([3], [3]), ([3], [3]), ([3], [3]), ([5, 6, 3], [3, 5, 6]), ([7, 3], [3, 7]), ([3], [3]), ([3], [3]), ([10, 3], [3, 10]), ([9, 11, 3], [3, 9, 11]), ([12, 3], [3, 12]), ([4, 8, 13, 3, 3], [3, 4, 8, 13]), ([14, 3], [3, 14]), ([3, 15], [3, 15])])
def ab_.B4 : List Nat := [0, 0, 3, 7, 15, 15, 15, 111, 239, 15, 15, 1039, 3599, 7695, 16383, 32767, 65535]
theorem ab_.tab4 : rtab .any (opsOf Try.f99 4) = ab_.T4 := by kernel_rfl
theorem ab_.bits4 : cy_ ab_.T4.2 ab_.B4 = true := by kernel_rfl
def ab_.T6 : Bool × List (List Nat × List Nat) := (true, [([], []), ([], []), ([], []), ([], []), ([3], [3]), ([], []), ([], []), ([6], [6]), ([5, 7], [5, 7]), ([8], [8]), ([], []), ([], []), ([10, 11], [10, 11]), ([12], [12]), ([0, 1, 0, 1, 5, 6, 7, 8, 9, 13], [0, 1]), ([14, 9, 0, 1, 5, 6, 7, 8, 9, 13], [9, 14]), ([2, 4, 0, 1, 2, 3, 4, 5, 6, 7, 8, 9, 10, 11, 12, 13, 14, 15], [2, 4]), ([16, 13, 15, 0, 1, 2, 3, 4, 5, 6, 7, 8, 9, 10, 11, 12, 13, 14, 15], [13, 16])])
def ab_.B6 : List Nat := [0, 0, 0, 0, 8, 0, 0, 64, 224, 480, 0, 0, 3072, 7168, 16355, 32739, 65535, 131071]
theorem ab_.tab6 : rtab .any (opsOf Try.f99 6) = ab_.T6 := by kernel_rfl
theorem ab_.bits6 : cy_ ab_.T6.2 ab_.B6 = true := by kernel_rfl
set_option maxHeartbeats 8000000 in
set_option maxRecDepth 100000 in
theorem ab_.calls (k : Nat) (P0_ : Nat → Prop) (u9000_ : Value) (l0 : List Int) (a1 : Int) (a2 : Int) (A3c0 : Option Addr) (l3c0 : List (List (S28))) (A3c1 : Option Addr) (l3c1 : List (S28)) (r : List Int) (w0 w : World) (hB : Below w0.heap.size w0 w) (ho0 : Kd.R (Kd.int .i64) 2 w w0.heap.size P0_ u9000_ l0) (hr3c0 : ∀ W_, Kept w W_ (fun k_ => P0_ k_) → Kd.C (Kd.slice 28 k28) W_ A3c0 l3c0.length l3c0) (hr3c1 : ∀ W_, Kept w W_ (fun k_ => P0_ k_) → Kd.C k28 W_ A3c1 l3c1.length l3c1) (h : ab_.f k l0 a1 a2 l3c0 l3c1 = some r) :
  Calls Try.prog 99 #[u9000_, .int .i64 a1, .int .i64 a2, .func (.func 73) #[] #[.pointer A3c0, .pointer A3c1]] w fun e w' => e = .returned (.tuple #[]) ∧ Kd.R (Kd.int .i64) 2 w' w0.heap.size (fun k_ => (P0_ k_ ∨ w.heap.size ≤ k_)) u9000_ r ∧ Below w0.heap.size w0 w' ∧ Kept w w' (fun k_ => P0_ k_) := by
 have HO0 := Aside0.mk (show Kd.R (Kd.int .i64) 2 w w0.heap.size (fun k_ => (P0_ k_ ∨ w.heap.size ≤ k_)) u9000_ l0 from Kd.bp_ ho0 (fun k_ hk => (.inl hk)))
 have HR3c0 := Aside0.mk hr3c0
 clear hr3c0
 have HR3c1 := Aside0.mk hr3c1
 clear hr3c1
 have HK := Aside0.mk (Kept.refl w (fun k_ => P0_ k_))
 have HW0 := Aside0.mk hB.size
 have HB := Aside0.mk hB
 clear hB
 have H : (ab_.l0 k l0 a1 a2 (wrap64 (a1 + 1)) l3c0 l3c1) = some r := h
 clear h
 have H' := Aside0.mk H
 clear H
 go_enter Try.func99, Try.ntmps99
 go_wp2
 (try simp only [Act.put, lsa_, ls0_, ls1_])
 go_loopg [8] k (fun kq v8 w' => ∃ (x0_1 : List Int) (x8_1 : Int), v8 = .int .i64 x8_1 ∧ Aside0 (ab_.l0 kq x0_1 a1 a2 x8_1 l3c0 l3c1 = some r) ∧ Aside0 (kq ≤ k) ∧ Aside0 (Kd.R (Kd.int .i64) 2 w' w0.heap.size (fun k_ => (P0_ k_ ∨ w.heap.size ≤ k_)) u9000_ x0_1) ∧ Aside0 (Kept w w' (fun k_ => P0_ k_)) ∧ Aside0 (Below w0.heap.size w0 w'))
 case atStart => exact ⟨(l0), (wrap64 (a1 + 1)), (by first | rfl | (simp; done) | (simp [*]; done)), H', ⟨Nat.le_refl _⟩, ⟨rz HO0.out⟩, ⟨hz HK.out⟩, ⟨bz HB.out⟩⟩
 case round =>
  clear H'
  obtain ⟨x0_1, x8_1, rfl, HA, HK1, HO_0, HK, HB⟩ := hrel
  cases gk with
  | zero => exact absurd HA.out (by simp [ab_.l0])
  | succ k1 =>
   have H := HA.out
   clear HA
   simp only [ab_.l0] at H
   by_cases c5 : x8_1 < a2
   rotate_left
   ·rw [if_neg c5] at H
    have c5b0 : decide (x8_1 < a2) = false := decide_eq_false c5
    clear c5
    obtain rfl := Option.some.inj H
    go_wp2
    first | go_end0 | ((try simp only [Exit.inBlock, Exit.then]); refine bodyPost_ret (results_none rfl _ _ _) rfl ?_)
    exact ⟨by first | rfl | (simp [*, aH_, aG_] <;> rfl), rz HO_0.out, bz HB.out, hz HK.out⟩
   rw [if_pos c5] at H
   have c5b0 : decide (x8_1 < a2) = true := decide_eq_true c5
   clear c5
   have H' := Aside0.mk H
   clear H
   go_wp2
   (try simp only [Act.put, lsa_, ls0_, ls1_])
   go_loopg [9] k1 (fun kq v9 w' => ∃ (x0_2 : List Int) (x9_2 : Int), v9 = .int .i64 x9_2 ∧ Aside0 (ab_.l1 kq x0_2 a1 a2 x8_1 x9_2 l3c0 l3c1 = some r) ∧ Aside0 (kq ≤ k1) ∧ Aside0 (Kd.R (Kd.int .i64) 2 w' w0.heap.size (fun k_ => (P0_ k_ ∨ w.heap.size ≤ k_)) u9000_ x0_2) ∧ Aside0 (Kept w w' (fun k_ => P0_ k_)) ∧ Aside0 (Below w0.heap.size w0 w'))
   case atStart => exact ⟨(x0_1), (x8_1), (by first | rfl | (simp; done) | (simp [*]; done)), H', ⟨Nat.le_refl _⟩, ⟨rz HO_0.out⟩, ⟨hz HK.out⟩, ⟨bz HB.out⟩⟩
   case round =>
    clear H'
    obtain ⟨x0_2, x9_2, rfl, HA, HK2, HO_0, HK, HB⟩ := hrel
    cases gk with
    | zero => exact absurd HA.out (by simp [ab_.l1])
    | succ k2 =>
     have H := HA.out
     clear HA
     simp only [ab_.l1] at H
     by_cases c6 : x9_2 > a1
     rotate_left
     ·rw [if_neg c6] at H
      have c6b0 : decide (a1 < x9_2) = false := decide_eq_false c6
      clear c6
      have H' := Aside0.mk H
      clear H
      try go_wp2
      have n0_ := Aside0.mk (Kd.cu_ HO_0.out)
      have n1_ := Aside0.mk (Kept.drew HK.out)
      have n2_ := Aside0.mk (bD_ HB.out)
      clear HO_0
      clear HK
      clear HB
      have HO_0 := n0_
      have HK := n1_
      have HB := n2_
      clear n0_ n1_ n2_
      refine cv_ (n := 17) (S := fun w' => True) (ds := []) #[f_,f_,f_,f_,f_,f_,f_,f_,f_,f_,f_,f_,f_,f_,f_,f_,f_] (by kernel_rfl) rfl rfl trivial (fun hHeld => ?_); refine bT_ ab_.tab4 ab_.bits4 (fun HT_ HW_ => ?_)
      generalize wr.drew = w23 at HO_0 HK HB hHeld ⊢
      refine pu 0 18 #[t_,f_,f_,f_,f_,f_,f_,f_,f_,f_,f_,f_,f_,f_,f_,f_,f_] HT_ ?_
      refine pu 1 19 #[t_,t_,f_,f_,f_,f_,f_,f_,f_,f_,f_,f_,f_,f_,f_,f_,f_] HT_ ?_
      refine pu 2 20 #[t_,t_,t_,f_,f_,f_,f_,f_,f_,f_,f_,f_,f_,f_,f_,f_,f_] HT_ ?_
      refine pu 3 21 #[t_,t_,t_,t_,f_,f_,f_,f_,f_,f_,f_,f_,f_,f_,f_,f_,f_] HT_ ?_
      refine pn 4 22 #[t_,t_,t_,t_,t_,f_,f_,f_,f_,f_,f_,f_,f_,f_,f_,f_,f_] HT_ ?_
      refine pn 5 23 #[t_,t_,t_,t_,t_,t_,f_,f_,f_,f_,f_,f_,f_,f_,f_,f_,f_] HT_ ?_
      refine pn 6 24 #[t_,t_,t_,t_,t_,t_,t_,f_,f_,f_,f_,f_,f_,f_,f_,f_,f_] HT_ ?_
      refine pn 7 25 #[t_,t_,t_,t_,t_,t_,t_,t_,f_,f_,f_,f_,f_,f_,f_,f_,f_] HT_ ?_
      refine pn 8 26 #[t_,t_,t_,t_,t_,t_,t_,t_,t_,f_,f_,f_,f_,f_,f_,f_,f_] HT_ ?_
      refine pn 9 27 #[t_,t_,t_,t_,t_,t_,t_,t_,t_,t_,f_,f_,f_,f_,f_,f_,f_] HT_ ?_
      refine pn 10 28 #[t_,t_,t_,t_,t_,t_,t_,t_,t_,t_,t_,f_,f_,f_,f_,f_,f_] HT_ ?_
      refine pn 11 29 #[t_,t_,t_,t_,t_,t_,t_,t_,t_,t_,t_,t_,f_,f_,f_,f_,f_] HT_ ?_
      refine pn 12 30 #[t_,t_,t_,t_,t_,t_,t_,t_,t_,t_,t_,t_,t_,f_,f_,f_,f_] HT_ ?_
      refine pn 13 31 #[t_,t_,t_,t_,t_,t_,t_,t_,t_,t_,t_,t_,t_,t_,f_,f_,f_] HT_ ?_
      refine pn 14 32 #[t_,t_,t_,t_,t_,t_,t_,t_,t_,t_,t_,t_,t_,t_,t_,f_,f_] HT_ ?_
      refine pn 15 33 #[t_,t_,t_,t_,t_,t_,t_,t_,t_,t_,t_,t_,t_,t_,t_,t_,f_] HT_ ?_
      refine pu 16 34 #[t_,t_,t_,t_,t_,t_,t_,t_,t_,t_,t_,t_,t_,t_,t_,t_,t_] HT_ ?_
      refine done_ (cl_ HT_.out (by kernel_rfl)) ?_
      try go_wp2
      go_roundg k2
      case measure => have := HK1.out; have := HK2.out; omega
      case rel => exact ⟨(x0_2), (wrap64 (x8_1 + 1)), (by first | rfl | (simp; done) | (simp [*]; done)), H', ⟨by have := HK1.out; have := HK2.out; omega⟩, ⟨rz HO_0.out⟩, ⟨hz HK.out⟩, ⟨bz HB.out⟩⟩
     rw [if_pos c6] at H
     have c6b0 : decide (a1 < x9_2) = true := decide_eq_true c6
     clear c6
     by_cases c7 : 0 ≤ x9_2
     rotate_left
     ·rw [if_neg c7] at H
      exact absurd H (by simp)
     rw [if_pos c7] at H
     have c7b0 : decide (0 ≤ x9_2) = true := decide_eq_true c7
     clear c7
     by_cases c8 : x9_2 < (x0_2.length : Int)
     rotate_left
     ·rw [if_neg c8] at H
      exact absurd H (by simp)
     rw [if_pos c8] at H
     have c8b0 : decide (x9_2 < (x0_2.length : Int)) = true := decide_eq_true c8
     clear c8
     obtain ⟨ji9, hji9⟩ : ∃ j_ : Int, (wrap64 (x9_2 - 1)) = j_ := ⟨_, rfl⟩
     replace H : (if 0 ≤ (ji9) then (if (ji9) < (x0_2.length : Int) then ((aP_.f k2 (rd x0_2 x9_2) (rd x0_2 (ji9)) l3c0 l3c1).bind fun t103 => (if t103 < 0 then (ab_.l1 k2 ((x0_2.set (x9_2 : Int).toNat (rd x0_2 (ji9))).set ((ji9) : Int).toNat (rd x0_2 x9_2)) a1 a2 x8_1 ji9 l3c0 l3c1) else (ab_.l0 k2 x0_2 a1 a2 (wrap64 (x8_1 + 1)) l3c0 l3c1))) else (none)) else (none)) = some r := by first | (rw [hji9] at H; exact H) | (simp only [hji9] at H ⊢; exact H)
     have hji9w : (IntKind.i64.wrap (x9_2 - 1)) = ji9 := (i64_w _).trans hji9
     by_cases c10 : 0 ≤ (ji9)
     rotate_left
     ·rw [if_neg c10] at H
      exact absurd H (by simp)
     rw [if_pos c10] at H
     have c10b0 : decide (0 ≤ (ji9)) = true := decide_eq_true c10
     clear c10
     by_cases c11 : (ji9) < (x0_2.length : Int)
     rotate_left
     ·rw [if_neg c11] at H
      exact absurd H (by simp)
     rw [if_pos c11] at H
     have c11b0 : decide ((ji9) < (x0_2.length : Int)) = true := decide_eq_true c11
     clear c11
     replace H := Option.bind_eq_some_iff.mp H
     obtain ⟨t103, A120, H⟩ := H
     (try dsimp only at H)
     have A12 := Aside0.mk A120
     clear A120
     have HC13 := Aside0.mk H
     clear H
     try go_wp2
     have n0_ := Aside0.mk (Kd.cu_ HO_0.out)
     have n1_ := Aside0.mk (Kept.drew HK.out)
     have n2_ := Aside0.mk (bD_ HB.out)
     clear HO_0
     clear HK
     clear HB
     have HO_0 := n0_
     have HK := n1_
     have HB := n2_
     clear n0_ n1_ n2_
     obtain ⟨Ao15, co15, eo15⟩ := Kd.bP_ HO_0.out
     (first | subst eo15 | (injection eo15 with f1_ f2_ f3_; have f4_ := f1_.symm; have f5_ := f3_.symm; clear f1_ f2_ f3_; subst f4_; subst f5_))
     have p101 : 0 ≤ (x9_2 : Int) := of_decide_eq_true (by assumption)
     have q101 : x9_2 < (x0_2.length : Int) := of_decide_eq_true (by assumption)
     obtain ⟨ad101, e101, hx101_0⟩ := Kd.bL_ (Kd.aD_ HO_0.out).2.2 x9_2 p101 q101
     cases e101
     replace p101 := eq_true p101
     replace q101 := eq_true q101
     have p102 : 0 ≤ ((ji9) : Int) := of_decide_eq_true (by assumption)
     have q102 : (ji9) < (x0_2.length : Int) := of_decide_eq_true (by assumption)
     obtain ⟨ad102, e102, hx102_0⟩ := Kd.bL_ (Kd.aD_ HO_0.out).2.2 (ji9) p102 q102
     obtain rfl : ad101 = ad102 := (by injection e102)
     replace p102 := eq_true p102
     replace q102 := eq_true q102
     refine cv_ (n := 17) (S := fun w' => w'.cell? (ad101.add (x9_2).toNat) = some (.int .i64 (rd x0_2 x9_2)) ∧ w'.cell? (ad101.add ((ji9)).toNat) = some (.int .i64 (rd x0_2 (ji9)))) (ds := []) #[f_,f_,f_,f_,f_,f_,f_,f_,f_,f_,f_,f_,f_,f_,f_,f_,f_] (by kernel_rfl) rfl rfl ⟨hx101_0, hx102_0⟩ (fun hHeld => ?_); refine bT_ ab_.tab4 ab_.bits4 (fun HT_ HW_ => ?_)
     generalize wr.drew = w14 at HO_0 HK HB hx101_0 hx102_0 hHeld ⊢
     refine pu 0 18 #[t_,f_,f_,f_,f_,f_,f_,f_,f_,f_,f_,f_,f_,f_,f_,f_,f_] HT_ ?_
     refine pu 1 19 #[t_,t_,f_,f_,f_,f_,f_,f_,f_,f_,f_,f_,f_,f_,f_,f_,f_] HT_ ?_
     refine pu 2 20 #[t_,t_,t_,f_,f_,f_,f_,f_,f_,f_,f_,f_,f_,f_,f_,f_,f_] HT_ ?_
     refine pu 3 21 #[t_,t_,t_,t_,f_,f_,f_,f_,f_,f_,f_,f_,f_,f_,f_,f_,f_] HT_ ?_
     refine pu 4 22 #[t_,t_,t_,t_,t_,f_,f_,f_,f_,f_,f_,f_,f_,f_,f_,f_,f_] HT_ ?_
     refine pu 5 23 #[t_,t_,t_,t_,t_,t_,f_,f_,f_,f_,f_,f_,f_,f_,f_,f_,f_] HT_ ?_
     refine pu 6 24 #[t_,t_,t_,t_,t_,t_,t_,f_,f_,f_,f_,f_,f_,f_,f_,f_,f_] HT_ ?_
     refine pu 7 25 #[t_,t_,t_,t_,t_,t_,t_,t_,f_,f_,f_,f_,f_,f_,f_,f_,f_] HT_ ?_
     refine pu 9 27 #[t_,t_,t_,t_,t_,t_,t_,t_,f_,t_,f_,f_,f_,f_,f_,f_,f_] HT_ ?_
     refine pu 10 28 #[t_,t_,t_,t_,t_,t_,t_,t_,f_,t_,t_,f_,f_,f_,f_,f_,f_] HT_ ?_
     refine pu 11 29 #[t_,t_,t_,t_,t_,t_,t_,t_,f_,t_,t_,t_,f_,f_,f_,f_,f_] HT_ ?_
     refine pu 12 30 #[t_,t_,t_,t_,t_,t_,t_,t_,f_,t_,t_,t_,t_,f_,f_,f_,f_] HT_ ?_
     refine tk 8 26 #[t_,t_,t_,t_,t_,t_,t_,t_,t_,t_,t_,t_,t_,f_,f_,f_,f_] HT_ HW_ hHeld ?_ (hv := by rintro w' ⟨s0, s1⟩; go_simp; with_reducible rfl)
     refine tk 13 31 #[t_,t_,t_,t_,t_,t_,t_,t_,t_,t_,t_,t_,t_,t_,f_,f_,f_] HT_ HW_ hHeld ?_ (hv := by rintro w' ⟨s0, s1⟩; go_simp; with_reducible rfl)
     refine one_ (i := 14) (N := some 32) #[t_,t_,t_,t_,t_,t_,t_,t_,t_,t_,t_,t_,t_,t_,t_,f_,f_] rfl rfl (cs_ HT_.out (by kernel_rfl)) (by decide) (fun K hK => ?_)
     (first | refine goes_ Try.func73 (by kernel_rfl) rfl #[.int .i64 (rd x0_2 x9_2), .int .i64 (rd x0_2 (ji9)), .pointer A3c0, .pointer A3c1] (by rfl) rfl rfl (by (try simp only [List.map_toArray, List.map_cons, List.map_nil]); first | done | (simp only [hji9]; rfl) | rfl | (simp only [List.length_drop, List.length_take]; rfl)) ?_ | refine RPW.cC_ Try.func73 (by kernel_rfl) rfl #[.int .i64 (rd x0_2 x9_2), .int .i64 (rd x0_2 (ji9)), .pointer A3c0, .pointer A3c1] (by rfl) rfl rfl rfl (by (try simp only [List.map_toArray, List.map_cons, List.map_nil]); first | done | (simp only [hji9]; rfl) | rfl | (simp only [List.length_drop, List.length_take]; rfl)) ?_ | refine RPW.cB_ Try.func73 (by kernel_rfl) rfl #[.int .i64 (rd x0_2 x9_2), .int .i64 (rd x0_2 (ji9)), .pointer A3c0, .pointer A3c1] (by rfl) rfl rfl rfl (by (try simp only [List.map_toArray, List.map_cons, List.map_nil]); first | done | (simp only [hji9]; rfl) | rfl | (simp only [List.length_drop, List.length_take]; rfl)) ?_)
     with_reducible refine (aP_.calls k2 (rd x0_2 x9_2) (rd x0_2 (ji9)) _ l3c0 _ l3c1 t103 _ ?side1 ?side2 A12.out).mono ?_
     (case side1 => exact Kd.C_kept_now HR3c0.out (hz HK.out))
     (case side2 => exact Kd.C_kept_now HR3c1.out (hz HK.out))
     rintro e w16 ⟨rfl, hb⟩
     have HS0_ := (hb.cell (bl_ _ _ (hHeld.1))).trans (hHeld.1)
     have HS1_ := (hb.cell (bl_ _ _ (hHeld.2))).trans (hHeld.2)
     refine ⟨_, rfl, ?_⟩
     have n0_ := Aside0.mk (Kd.cc_ (rz HO_0.out) hb)
     have n1_ := Aside0.mk (Kept.below (S := (fun k_ => P0_ k_)) (hz HK.out) hb)
     have n2_ := Aside0.mk (am_ (bz HB.out) hb)
     clear HO_0
     clear HK
     clear HB
     have HO_0 := n0_
     have HK := n1_
     have HB := n2_
     clear n0_ n1_ n2_
     (try clear hb)
     refine hK.out _ _ ⟨HS0_, HS1_⟩ (fun hHeld => ?_)
     clear hK K
     refine norm_ (a' := ?_) ?_ ?_
     rotate_left
     ·show Act.put _ (some 32) _ = _
      simp only [Act.put, lsa_, ls0_, ls1_, i64_w, i32_w]
      rfl
     refine pu 15 33 #[t_,t_,t_,t_,t_,t_,t_,t_,t_,t_,t_,t_,t_,t_,t_,t_,f_] HT_ ?_
     refine pu 16 34 #[t_,t_,t_,t_,t_,t_,t_,t_,t_,t_,t_,t_,t_,t_,t_,t_,t_] HT_ ?_
     refine done_ (cl_ HT_.out (by kernel_rfl)) ?_
     go_upto_if 34 with (fail)
     have H := HC13.out
     clear HC13
     by_cases c17 : t103 < 0
     rotate_left
     ·rw [if_neg c17] at H
      have c17b0 : decide (t103 < 0) = false := decide_eq_false c17
      clear c17
      (first | rw [c17b0] | (simp only [i64_w, i32_w]; rw [c17b0]) | (simp only [c17b1, Bool.not_true, Bool.not_false]) | (simp only [c17b0, Bool.not_true, Bool.not_false]) | skip)
      have H' := Aside0.mk H
      clear H
      go_wp2
      go_roundg k2
      case measure => have := HK1.out; have := HK2.out; omega
      case rel => exact ⟨(x0_2), (wrap64 (x8_1 + 1)), (by first | rfl | (simp; done) | (simp [*]; done)), H', ⟨by have := HK1.out; have := HK2.out; omega⟩, ⟨rz HO_0.out⟩, ⟨hz HK.out⟩, ⟨bz HB.out⟩⟩
     rw [if_pos c17] at H
     have c17b0 : decide (t103 < 0) = true := decide_eq_true c17
     clear c17
     (first | rw [c17b0] | (simp only [i64_w, i32_w]; rw [c17b0]) | (simp only [c17b1, Bool.not_true, Bool.not_false]) | (simp only [c17b0, Bool.not_true, Bool.not_false]) | skip)
     obtain ⟨y106, hy106⟩ : ∃ y_ : List Int, y_ = (x0_2.set (x9_2 : Int).toNat (rd x0_2 (ji9))) := ⟨_, rfl⟩
     replace H : (ab_.l1 k2 (y106.set ((ji9) : Int).toNat (rd x0_2 x9_2)) a1 a2 x8_1 ji9 l3c0 l3c1) = some r := by first | (rw [hy106]; with_reducible exact H) | (have H2_ := (Option.bind_some _ _).symm.trans H; rw [hy106]; with_reducible exact H2_) | (have H2_ := (Option.bind_some _ _).symm.trans H; with_reducible exact H2_) | with_reducible exact H | (rw [hy106]; exact H) | exact H
     have Ny106 := Aside0.mk hy106
     clear hy106
     obtain ⟨y107, hy107⟩ : ∃ y_ : List Int, y_ = (y106.set ((ji9) : Int).toNat (rd x0_2 x9_2)) := ⟨_, rfl⟩
     replace H : (ab_.l1 k2 y107 a1 a2 x8_1 ji9 l3c0 l3c1) = some r := by first | (rw [hy107]; with_reducible exact H) | (have H2_ := (Option.bind_some _ _).symm.trans H; rw [hy107]; with_reducible exact H2_) | (have H2_ := (Option.bind_some _ _).symm.trans H; with_reducible exact H2_) | with_reducible exact H | (rw [hy107]; exact H) | exact H
     have Ny107 := Aside0.mk hy107
     clear hy107
     have H' := Aside0.mk H
     clear H
     try go_wp2
     (try (rw [ce_ w16]; generalize hq_ : World.drewN w16 _ = w16; have n0_ : Aside0 (Kd.R (Kd.int .i64) 2 w16 w0.heap.size (fun k_ => (P0_ k_ ∨ w.heap.size ≤ k_)) (.slice (some ad101) x0_2.length co15) x0_2) := ⟨by rw [← hq_]; exact (rz HO_0.out)⟩; have n1_ : Aside0 (Kept w w16 (fun k_ => P0_ k_)) := ⟨by rw [← hq_]; exact (hz HK.out)⟩; have n2_ : Aside0 (Below w0.heap.size w0 w16) := ⟨by rw [← hq_]; exact (bz HB.out)⟩; clear HO_0 HK HB hq_; have HO_0 := n0_; have HK := n1_; have HB := n2_; clear n0_ n1_ n2_))
     have n0_ := Aside0.mk (Kd.cu_ HO_0.out)
     have n1_ := Aside0.mk (Kept.drew HK.out)
     have n2_ := Aside0.mk (bD_ HB.out)
     clear HO_0
     clear HK
     clear HB
     have HO_0 := n0_
     have HK := n1_
     have HB := n2_
     clear n0_ n1_ n2_
     have p104 : 0 ≤ ((ji9) : Int) := of_decide_eq_true (by assumption)
     have q104 : (ji9) < (x0_2.length : Int) := of_decide_eq_true (by assumption)
     obtain ⟨ad104, e104, hx104_0⟩ := Kd.bL_ (Kd.aD_ HO_0.out).2.2 (ji9) p104 q104
     obtain rfl : ad101 = ad104 := (by injection e104)
     replace p104 := eq_true p104
     replace q104 := eq_true q104
     have p105 : 0 ≤ (x9_2 : Int) := of_decide_eq_true (by assumption)
     have q105 : x9_2 < (x0_2.length : Int) := of_decide_eq_true (by assumption)
     obtain ⟨ad105, e105, hx105_0⟩ := Kd.bL_ (Kd.aD_ HO_0.out).2.2 x9_2 p105 q105
     obtain rfl : ad101 = ad105 := (by injection e105)
     replace p105 := eq_true p105
     replace q105 := eq_true q105
     have p18 : 0 ≤ (x9_2 : Int) := of_decide_eq_true (by assumption)
     have q18 : (x9_2 : Int) < ((x0_2.length : Int) : Int) := of_decide_eq_true (by assumption)
     obtain ⟨go18, co18, eo18, gb18, gl18, cl18, HG18⟩ := Kd.R_form HO_0.out (by omega)
     (first | cases eo18 | (injection eo18 with ea_ en_ ec_; (first | subst ea_ | (injection ea_ with ea_; subst ea_)); subst ec_; clear en_))
     have GB18 := Aside0.mk gb18
     have GG18 := Aside0.mk HG18
     clear gb18 gl18 HG18
     have HMgo18 := Aside0.mk (show (P0_ go18 ∨ w.heap.size ≤ go18) from (HO_0.out.1 _ rfl))
     (first | simp only [add_plain] at hx101_0 | skip)
     (first | simp only [add_plain] at hx102_0 | skip)
     (first | simp only [add_plain] at hx104_0 | skip)
     (first | simp only [add_plain] at hx105_0 | skip)
     obtain ⟨hx18_0, hf18_0⟩ := Kd.R_celln 0 HO_0.out (x9_2 : Int) p18 q18
     replace p18 := eq_true p18
     replace q18 := eq_true q18
     have HP21 := Kd.R_putn HO_0.out (x9_2 : Int) (rd x0_2 (ji9))
     rw [← Ny106.out] at HP21
     have HQ21 := Aside0.mk HP21
     clear HP21
     have p19 : 0 ≤ ((ji9) : Int) := of_decide_eq_true (by assumption)
     have q19 : ((ji9) : Int) < ((x0_2.length : Int) : Int) := of_decide_eq_true (by assumption)
     obtain ⟨hx19_0, hf19_0⟩ := Kd.R_celln 0 HQ21.out ((ji9) : Int) p19 q19
     replace p19 := eq_true p19
     replace q19 := eq_true q19
     have HP22 := Kd.R_putn HQ21.out ((ji9) : Int) (rd x0_2 x9_2)
     rw [← Ny107.out] at HP22
     have HQ22 := Aside0.mk HP22
     clear HP22
     refine cv_ (n := 18) (S := fun w' => w'.cell? ⟨go18, ((ji9)).toNat, none⟩ = some (.int .i64 (rd x0_2 (ji9))) ∧ w'.cell? ⟨go18, (x9_2).toNat, none⟩ = some (.int .i64 (rd x0_2 x9_2))) (ds := [15, 17]) #[f_,f_,f_,f_,f_,f_,f_,f_,f_,f_,f_,f_,f_,f_,f_,f_,f_,f_] (by kernel_rfl) rfl rfl ⟨hx104_0, hx105_0⟩ (fun hHeld => ?_); refine bT_ ab_.tab6 ab_.bits6 (fun HT_ HW_ => ?_)
     generalize w16.drew = w20 at HO_0 HK HB GG18 HQ21 HQ22 hf18_0 hf19_0 hx101_0 hx102_0 hx104_0 hx105_0 hx18_0 hx19_0 hHeld ⊢
     refine pu 0 37 #[t_,f_,f_,f_,f_,f_,f_,f_,f_,f_,f_,f_,f_,f_,f_,f_,f_,f_] HT_ ?_
     refine pu 1 38 #[t_,t_,f_,f_,f_,f_,f_,f_,f_,f_,f_,f_,f_,f_,f_,f_,f_,f_] HT_ ?_
     refine pu 2 39 #[t_,t_,t_,f_,f_,f_,f_,f_,f_,f_,f_,f_,f_,f_,f_,f_,f_,f_] HT_ ?_
     refine pu 3 40 #[t_,t_,t_,t_,f_,f_,f_,f_,f_,f_,f_,f_,f_,f_,f_,f_,f_,f_] HT_ ?_
     refine pu 4 41 #[t_,t_,t_,t_,t_,f_,f_,f_,f_,f_,f_,f_,f_,f_,f_,f_,f_,f_] HT_ ?_
     refine pu 5 42 #[t_,t_,t_,t_,t_,t_,f_,f_,f_,f_,f_,f_,f_,f_,f_,f_,f_,f_] HT_ ?_
     refine pu 6 43 #[t_,t_,t_,t_,t_,t_,t_,f_,f_,f_,f_,f_,f_,f_,f_,f_,f_,f_] HT_ ?_
     refine pu 7 44 #[t_,t_,t_,t_,t_,t_,t_,t_,f_,f_,f_,f_,f_,f_,f_,f_,f_,f_] HT_ ?_
     refine pu 8 45 #[t_,t_,t_,t_,t_,t_,t_,t_,t_,f_,f_,f_,f_,f_,f_,f_,f_,f_] HT_ ?_
     refine pu 10 47 #[t_,t_,t_,t_,t_,t_,t_,t_,t_,f_,t_,f_,f_,f_,f_,f_,f_,f_] HT_ ?_
     refine pu 11 48 #[t_,t_,t_,t_,t_,t_,t_,t_,t_,f_,t_,t_,f_,f_,f_,f_,f_,f_] HT_ ?_
     refine pu 12 49 #[t_,t_,t_,t_,t_,t_,t_,t_,t_,f_,t_,t_,t_,f_,f_,f_,f_,f_] HT_ ?_
     refine tk 9 46 #[t_,t_,t_,t_,t_,t_,t_,t_,t_,t_,t_,t_,t_,f_,f_,f_,f_,f_] HT_ HW_ hHeld ?_ (hv := by rintro w' ⟨s0, s1⟩; go_simp; with_reducible rfl)
     refine tk 13 50 #[t_,t_,t_,t_,t_,t_,t_,t_,t_,t_,t_,t_,t_,t_,f_,f_,f_,f_] HT_ HW_ hHeld ?_ (hv := by rintro w' ⟨s0, s1⟩; go_simp; with_reducible rfl)
     refine pu 14 51 #[t_,t_,t_,t_,t_,t_,t_,t_,t_,t_,t_,t_,t_,t_,t_,f_,f_,f_] HT_ ?_
     refine last_ (i := 15) (N := none) #[t_,t_,t_,t_,t_,t_,t_,t_,t_,t_,t_,t_,t_,t_,t_,t_,f_,f_] rfl rfl (cs_ HT_.out (by kernel_rfl)) (by decide) (fun K hK => ?_)
     refine skip_ (w1 := ?_) (by rfl) rfl ?_ ?_
     rotate_left
     ·go_simp
      rfl
     refine hK.out _ _ ?_
     clear hK K
     refine pu 16 52 #[t_,t_,t_,t_,t_,t_,t_,t_,t_,t_,t_,t_,t_,t_,t_,t_,t_,f_] HT_ ?_
     refine last_ (i := 17) (N := none) #[t_,t_,t_,t_,t_,t_,t_,t_,t_,t_,t_,t_,t_,t_,t_,t_,t_,t_] rfl rfl (cs_ HT_.out (by kernel_rfl)) (by decide) (fun K hK => ?_)
     refine skip_ (w1 := ?_) (by rfl) rfl ?_ ?_
     rotate_left
     ·go_simp
      rfl
     refine hK.out _ _ ?_
     clear hK K
     refine done_ (cl_ HT_.out (by kernel_rfl)) ?_
     try go_wp2
     go_roundg k2
     case measure => have := HK1.out; have := HK2.out; omega
     case rel => exact ⟨(y107), (ji9), (by first | rfl | (simp; done) | (simp only [← hji9] <;> (first | rfl | simp)) | (simp [*]; done)), H', ⟨by have := HK1.out; have := HK2.out; omega⟩, ⟨rz HQ22.out⟩, ⟨by repeat (first | (with_reducible first | exact HK.out | apply Kept.alloc | apply Kept.drewN | apply Kept.drew | refine Kept.setCell ?_ HMgo18.out _ | refine Kept.setCell ?_ HMgo18.out _) | exact HK.out)⟩, ⟨by repeat (first | (with_reducible first | exact HB.out | apply bA_ | apply bN_ | apply bD_ | refine ad_ ?_ GB18.out | refine ad_ ?_ GB18.out))⟩⟩
def bk_.f : Nat → List Int → Int → Int → Int → List (List (S28)) → List (S28) → Option (List Int) := fun _ _ _ _ _ _ _ => none
theorem bk_.calls (k : Nat) : ∀ (P0_ : Nat → Prop) (u9000_ : Value) (l0 : List Int) (a1 : Int) (a2 : Int) (a3 : Int) (A4c0 : Option Addr) (l4c0 : List (List (S28))) (A4c1 : Option Addr) (l4c1 : List (S28)) (r : List Int) (w0 w : World) (hB : Below w0.heap.size w0 w) (ho0 : Kd.R (Kd.int .i64) 2 w w0.heap.size P0_ u9000_ l0) (hr4c0 : ∀ W_, Kept w W_ (fun k_ => P0_ k_) → Kd.C (Kd.slice 28 k28) W_ A4c0 l4c0.length l4c0) (hr4c1 : ∀ W_, Kept w W_ (fun k_ => P0_ k_) → Kd.C k28 W_ A4c1 l4c1.length l4c1) (h : bk_.f k l0 a1 a2 a3 l4c0 l4c1 = some r),
  Calls Try.prog 100 #[u9000_, .int .i64 a1, .int .i64 a2, .int .i64 a3, .func (.func 73) #[] #[.pointer A4c0, .pointer A4c1]] w fun e w' => e = .returned (.tuple #[]) ∧ Kd.R (Kd.int .i64) 2 w' w0.heap.size (fun k_ => (P0_ k_ ∨ w.heap.size ≤ k_)) u9000_ r ∧ Below w0.heap.size w0 w' ∧ Kept w w' (fun k_ => P0_ k_) := by
 intro _ _ _ _ _ _ _ _ _ _ _ _ _ _ _ _ _ h
 exact absurd h (by simp [bk_.f])
mutual
def ak_.l0 : Nat → List Int → Int → Int → Int → Int → List (List (S28)) → List (S28) → Option (List Int)
 | 0, _, _, _, _, _, _, _ => none
 | k + 1, x0, x1, x6, x7, x8, x520, x521 => if x8 ≤ x1 then ((ab_.f k x0 x7 x8 x520 x521).bind fun t101 => (ak_.l0 k t101 x1 x6 x8 (wrap64 (x8 + x6)) x520 x521)) else ((ab_.f k x0 x7 x1 x520 x521).bind fun t102 => (ak_.l1 k t102 x1 x6 x520 x521))
def ak_.l1 : Nat → List Int → Int → Int → List (List (S28)) → List (S28) → Option (List Int)
 | 0, _, _, _, _, _ => none
 | k + 1, x0, x1, x6, x520, x521 => if x6 < x1 then (ak_.l2 k x0 x1 x6 0 (wrap64 (2 * x6)) x520 x521) else (some x0)
def ak_.l2 : Nat → List Int → Int → Int → Int → Int → List (List (S28)) → List (S28) → Option (List Int)
 | 0, _, _, _, _, _, _, _ => none
 | k + 1, x0, x1, x6, x7, x8, x520, x521 => if x8 ≤ x1 then ((bk_.f k x0 x7 (wrap64 (x7 + x6)) x8 x520 x521).bind fun t103 => (ak_.l2 k t103 x1 x6 x8 (wrap64 (x8 + (wrap64 (2 * x6)))) x520 x521)) else (if (wrap64 (x7 + x6)) < x1 then ((bk_.f k x0 x7 (wrap64 (x7 + x6)) x1 x520 x521).bind fun t104 => (ak_.l1 k t104 x1 (wrap64 (x6 * 2)) x520 x521)) else (ak_.l1 k x0 x1 (wrap64 (x6 * 2)) x520 x521))
end
def ak_.f (k : Nat) (l0 : List Int) (a1 : Int) (l2c0 : List (List (S28))) (l2c1 : List (S28)) : Option (List Int) := ak_.l0 k l0 a1 20 0 20 l2c0 l2c1
set_option maxHeartbeats 8000000 in
set_option maxRecDepth 100000 in
theorem ak_.calls (k : Nat) (P0_ : Nat → Prop) (u9000_ : Value) (l0 : List Int) (a1 : Int) (A2c0 : Option Addr) (l2c0 : List (List (S28))) (A2c1 : Option Addr) (l2c1 : List (S28)) (r : List Int) (w0 w : World) (hB : Below w0.heap.size w0 w) (ho0 : Kd.R (Kd.int .i64) 2 w w0.heap.size P0_ u9000_ l0) (hr2c0 : ∀ W_, Kept w W_ (fun k_ => P0_ k_) → Kd.C (Kd.slice 28 k28) W_ A2c0 l2c0.length l2c0) (hr2c1 : ∀ W_, Kept w W_ (fun k_ => P0_ k_) → Kd.C k28 W_ A2c1 l2c1.length l2c1) (h : ak_.f k l0 a1 l2c0 l2c1 = some r) :
  Calls Try.prog 95 #[u9000_, .int .i64 a1, .func (.func 73) #[] #[.pointer A2c0, .pointer A2c1]] w fun e w' => e = .returned (.tuple #[]) ∧ Kd.R (Kd.int .i64) 2 w' w0.heap.size (fun k_ => (P0_ k_ ∨ w.heap.size ≤ k_)) u9000_ r ∧ Below w0.heap.size w0 w' ∧ Kept w w' (fun k_ => P0_ k_) := by
 have HO0 := Aside0.mk (show Kd.R (Kd.int .i64) 2 w w0.heap.size (fun k_ => (P0_ k_ ∨ w.heap.size ≤ k_)) u9000_ l0 from Kd.bp_ ho0 (fun k_ hk => (.inl hk)))
 have HR2c0 := Aside0.mk hr2c0
 clear hr2c0
 have HR2c1 := Aside0.mk hr2c1
 clear hr2c1
 have HK := Aside0.mk (Kept.refl w (fun k_ => P0_ k_))
 have HW0 := Aside0.mk hB.size
 have HB := Aside0.mk hB
 clear hB
 have H : (ak_.l0 k l0 a1 20 0 20 l2c0 l2c1) = some r := h
 clear h
 have H' := Aside0.mk H
 clear H
 go_enter Try.func95, Try.ntmps95
 go_wp2
 (try simp only [Act.put, lsa_, ls0_, ls1_])
 go_loopg [7, 8] k (fun kq v7 v8 w' => ∃ (x0_1 : List Int) (x7_1 : Int) (x8_1 : Int), v7 = .int .i64 x7_1 ∧ v8 = .int .i64 x8_1 ∧ Aside0 (ak_.l0 kq x0_1 a1 20 x7_1 x8_1 l2c0 l2c1 = some r) ∧ Aside0 (kq ≤ k) ∧ Aside0 (Kd.R (Kd.int .i64) 2 w' w0.heap.size (fun k_ => (P0_ k_ ∨ w.heap.size ≤ k_)) u9000_ x0_1) ∧ Aside0 (Kept w w' (fun k_ => P0_ k_)) ∧ Aside0 (Below w0.heap.size w0 w'))
 case atStart => exact ⟨(l0), (0), (20), (by first | rfl | (simp; done) | (simp [*]; done)), (by first | rfl | (simp; done) | (simp [*]; done)), H', ⟨Nat.le_refl _⟩, ⟨rz HO0.out⟩, ⟨hz HK.out⟩, ⟨bz HB.out⟩⟩
 case round =>
  clear H'
  obtain ⟨x0_1, x7_1, x8_1, rfl, rfl, HA, HK1, HO_0, HK, HB⟩ := hrel
  cases gk with
  | zero => exact absurd HA.out (by simp [ak_.l0])
  | succ k1 =>
   have H := HA.out
   clear HA
   simp only [ak_.l0] at H
   by_cases c4 : x8_1 ≤ a1
   rotate_left
   ·rw [if_neg c4] at H
    have c4b0 : decide (x8_1 ≤ a1) = false := decide_eq_false c4
    clear c4
    replace H := Option.bind_eq_some_iff.mp H
    obtain ⟨t102, A80, H⟩ := H
    (try dsimp only at H)
    have A8 := Aside0.mk A80
    clear A80
    have H' := Aside0.mk H
    clear H
    obtain ⟨Ao9, co9, eo9⟩ := Kd.bP_ HO_0.out
    subst eo9
    go_wp2_with (first | ((with_reducible refine av_ (f := 99) rfl ?_); refine bo_ (some 27) rfl rfl Try.func99 (by kernel_rfl) rfl #[.slice Ao9 x0_1.length co9, .int .i64 x7_1, .int .i64 a1, .func (.func 73) #[] #[.pointer A2c0, .pointer A2c1]] rfl (by first | rfl | (simp only [lma_, lmc_, lmn_]; first | done | rfl)) ?_; (with_reducible refine (ab_.calls k1 (fun k_ => some k_ = (.slice Ao9 x0_1.length co9 : Value).ownBlock) (.slice Ao9 x0_1.length co9) x0_1 x7_1 a1 _ l2c0 _ l2c1 t102 w0 _ ?side1 ?side2 ?side3 ?side4 A8.out).mono ?_); (case side1 => exact bz HB.out); (case side2 => exact Kd.R_tight rfl HO_0.out); (case side3 => exact Kd.cb_ HR2c0.out (hz HK.out) (fun k_ hs_ => (fun e_ => (HO_0.out.1 k_ e_.symm)) hs_)); (case side4 => exact Kd.cb_ HR2c1.out (hz HK.out) (fun k_ hs_ => (fun e_ => (HO_0.out.1 k_ e_.symm)) hs_)); rintro e w10 ⟨rfl, hy0, hb, hkp⟩; refine ⟨_, rfl, ?_⟩; replace HK := Aside0.mk (Kept.then_ (S := (fun k_ => P0_ k_)) (hz HK.out) hkp (fun k_ hs_ => (fun e_ => (HO_0.out.1 k_ e_.symm)) hs_)); replace HO_0 := Aside0.mk (Kd.R_reok rfl hy0 (fun k_ e_ => HO_0.out.1 k_ e_)); replace HB := Aside0.mk (hb); (try clear hb); (try clear hkp); (try clear hy0)))
    (try simp only [Act.put, lsa_, ls0_, ls1_])
    go_loopg [6] k1 (fun kq v6 w' => ∃ (x0_2 : List Int) (x6_2 : Int), v6 = .int .i64 x6_2 ∧ Aside0 (ak_.l1 kq x0_2 a1 x6_2 l2c0 l2c1 = some r) ∧ Aside0 (kq ≤ k1) ∧ Aside0 (Kd.R (Kd.int .i64) 2 w' w0.heap.size (fun k_ => (P0_ k_ ∨ w.heap.size ≤ k_)) (.slice Ao9 x0_1.length co9) x0_2) ∧ Aside0 (Kept w w' (fun k_ => P0_ k_)) ∧ Aside0 (Below w0.heap.size w0 w'))
    case atStart => exact ⟨(t102), (20), (by first | rfl | (simp; done) | (simp [*]; done)), H', ⟨Nat.le_refl _⟩, ⟨rz HO_0.out⟩, ⟨hz HK.out⟩, ⟨bz HB.out⟩⟩
    case round =>
     clear H'
     obtain ⟨x0_2, x6_2, rfl, HA, HK2, HO_0, HK, HB⟩ := hrel
     have hl0_2 := (Kd.aD_ HO_0.out).1
     rw [hl0_2] at HO_0
     (try simp only [hl0_2])
     cases gk with
     | zero => exact absurd HA.out (by simp [ak_.l1])
     | succ k2 =>
      have H := HA.out
      clear HA
      simp only [ak_.l1] at H
      by_cases c11 : x6_2 < a1
      rotate_left
      ·rw [if_neg c11] at H
       have c11b0 : decide (x6_2 < a1) = false := decide_eq_false c11
       clear c11
       obtain rfl := Option.some.inj H
       go_wp2
       first | go_end0 | ((try simp only [Exit.inBlock, Exit.then]); refine bodyPost_ret (results_none rfl _ _ _) rfl ?_)
       exact ⟨by first | rfl | (simp [*, aH_, aG_] <;> rfl), (by first | exact (rz HO_0.out) | (simp only [hl0_2]; exact (rz HO_0.out))), bz HB.out, hz HK.out⟩
      rw [if_pos c11] at H
      have c11b0 : decide (x6_2 < a1) = true := decide_eq_true c11
      clear c11
      have H' := Aside0.mk H
      clear H
      go_wp2
      (try simp only [Act.put, lsa_, ls0_, ls1_])
      go_loopg [7, 8] k2 (fun kq v7 v8 w' => ∃ (x0_3 : List Int) (x7_3 : Int) (x8_3 : Int), v7 = .int .i64 x7_3 ∧ v8 = .int .i64 x8_3 ∧ Aside0 (ak_.l2 kq x0_3 a1 x6_2 x7_3 x8_3 l2c0 l2c1 = some r) ∧ Aside0 (kq ≤ k2) ∧ Aside0 (Kd.R (Kd.int .i64) 2 w' w0.heap.size (fun k_ => (P0_ k_ ∨ w.heap.size ≤ k_)) (.slice Ao9 x0_2.length co9) x0_3) ∧ Aside0 (Kept w w' (fun k_ => P0_ k_)) ∧ Aside0 (Below w0.heap.size w0 w'))
      case atStart => exact ⟨(x0_2), (0), (wrap64 (2 * x6_2)), (by first | rfl | (simp; done) | (simp [*]; done)), (by first | rfl | (simp; done) | (simp [*]; done)), H', ⟨Nat.le_refl _⟩, ⟨by (try simp only [hl0_2]); (with_reducible repeat (first | apply Kd.R_alloc | apply Kd.R_drewN | apply Kd.cu_)); exact HO_0.out⟩, ⟨hz HK.out⟩, ⟨bz HB.out⟩⟩
      case round =>
       clear H'
       obtain ⟨x0_3, x7_3, x8_3, rfl, rfl, HA, HK3, HO_0, HK, HB⟩ := hrel
       have hl0_3 := (Kd.aD_ HO_0.out).1
       rw [hl0_3] at HO_0
       (try simp only [hl0_3])
       cases gk with
       | zero => exact absurd HA.out (by simp [ak_.l2])
       | succ k3 =>
        have H := HA.out
        clear HA
        simp only [ak_.l2] at H
        by_cases c12 : x8_3 ≤ a1
        rotate_left
        ·rw [if_neg c12] at H
         have c12b0 : decide (x8_3 ≤ a1) = false := decide_eq_false c12
         clear c12
         by_cases c15 : (wrap64 (x7_3 + x6_2)) < a1
         rotate_left
         ·rw [if_neg c15] at H
          have c15b0 : decide ((wrap64 (x7_3 + x6_2)) < a1) = false := decide_eq_false c15
          clear c15
          have H' := Aside0.mk H
          clear H
          go_wp2
          (try simp only [← hl0_2, ← hl0_3])
          go_roundg k3
          case measure => have := HK1.out; have := HK2.out; have := HK3.out; omega
          case rel => exact ⟨(x0_3), (wrap64 (x6_2 * 2)), (by first | rfl | (simp; done) | (simp [*]; done)), H', ⟨by have := HK1.out; have := HK2.out; have := HK3.out; omega⟩, ⟨by (try simp only [hl0_2]); (try simp only [hl0_3]); (with_reducible repeat (first | apply Kd.R_alloc | apply Kd.R_drewN | apply Kd.cu_)); exact HO_0.out⟩, ⟨hz HK.out⟩, ⟨bz HB.out⟩⟩
         rw [if_pos c15] at H
         have c15b0 : decide ((wrap64 (x7_3 + x6_2)) < a1) = true := decide_eq_true c15
         clear c15
         replace H := Option.bind_eq_some_iff.mp H
         obtain ⟨t104, A160, H⟩ := H
         (try dsimp only at H)
         have A16 := Aside0.mk A160
         clear A160
         have H' := Aside0.mk H
         clear H
         go_wp2_with (first | ((with_reducible refine av_ (f := 100) rfl ?_); refine bo_ (some 60) rfl rfl Try.func100 (by kernel_rfl) rfl #[.slice Ao9 x0_3.length co9, .int .i64 x7_3, .int .i64 (wrap64 (x7_3 + x6_2)), .int .i64 a1, .func (.func 73) #[] #[.pointer A2c0, .pointer A2c1]] rfl (by first | rfl | (simp only [lma_, lmc_, lmn_]; first | done | rfl)) ?_; (with_reducible refine (bk_.calls k3 (fun k_ => some k_ = (.slice Ao9 x0_3.length co9 : Value).ownBlock) (.slice Ao9 x0_3.length co9) x0_3 x7_3 (wrap64 (x7_3 + x6_2)) a1 _ l2c0 _ l2c1 t104 w0 _ ?side1 ?side2 ?side3 ?side4 A16.out).mono ?_); (case side1 => exact bz HB.out); (case side2 => exact Kd.R_tight rfl HO_0.out); (case side3 => exact Kd.cb_ HR2c0.out (hz HK.out) (fun k_ hs_ => (fun e_ => (HO_0.out.1 k_ e_.symm)) hs_)); (case side4 => exact Kd.cb_ HR2c1.out (hz HK.out) (fun k_ hs_ => (fun e_ => (HO_0.out.1 k_ e_.symm)) hs_)); rintro e w17 ⟨rfl, hy0, hb, hkp⟩; refine ⟨_, rfl, ?_⟩; replace HK := Aside0.mk (Kept.then_ (S := (fun k_ => P0_ k_)) (hz HK.out) hkp (fun k_ hs_ => (fun e_ => (HO_0.out.1 k_ e_.symm)) hs_)); replace HO_0 := Aside0.mk (Kd.R_reok rfl hy0 (fun k_ e_ => HO_0.out.1 k_ e_)); replace HB := Aside0.mk (hb); (try clear hb); (try clear hkp); (try clear hy0)))
         (try simp only [← hl0_2, ← hl0_3])
         go_roundg k3
         case measure => have := HK1.out; have := HK2.out; have := HK3.out; omega
         case rel => exact ⟨(t104), (wrap64 (x6_2 * 2)), (by first | rfl | (simp; done) | (simp [*]; done)), H', ⟨by have := HK1.out; have := HK2.out; have := HK3.out; omega⟩, ⟨by (try simp only [hl0_2]); (try simp only [hl0_3]); (with_reducible repeat (first | apply Kd.R_alloc | apply Kd.R_drewN | apply Kd.cu_)); exact HO_0.out⟩, ⟨hz HK.out⟩, ⟨bz HB.out⟩⟩
        rw [if_pos c12] at H
        have c12b0 : decide (x8_3 ≤ a1) = true := decide_eq_true c12
        clear c12
        replace H := Option.bind_eq_some_iff.mp H
        obtain ⟨t103, A130, H⟩ := H
        (try dsimp only at H)
        have A13 := Aside0.mk A130
        clear A130
        have H' := Aside0.mk H
        clear H
        go_wp2_with (first | ((with_reducible refine av_ (f := 100) rfl ?_); refine bo_ (some 43) rfl rfl Try.func100 (by kernel_rfl) rfl #[.slice Ao9 x0_3.length co9, .int .i64 x7_3, .int .i64 (wrap64 (x7_3 + x6_2)), .int .i64 x8_3, .func (.func 73) #[] #[.pointer A2c0, .pointer A2c1]] rfl (by first | rfl | (simp only [lma_, lmc_, lmn_]; first | done | rfl)) ?_; (with_reducible refine (bk_.calls k3 (fun k_ => some k_ = (.slice Ao9 x0_3.length co9 : Value).ownBlock) (.slice Ao9 x0_3.length co9) x0_3 x7_3 (wrap64 (x7_3 + x6_2)) x8_3 _ l2c0 _ l2c1 t103 w0 _ ?side1 ?side2 ?side3 ?side4 A13.out).mono ?_); (case side1 => exact bz HB.out); (case side2 => exact Kd.R_tight rfl HO_0.out); (case side3 => exact Kd.cb_ HR2c0.out (hz HK.out) (fun k_ hs_ => (fun e_ => (HO_0.out.1 k_ e_.symm)) hs_)); (case side4 => exact Kd.cb_ HR2c1.out (hz HK.out) (fun k_ hs_ => (fun e_ => (HO_0.out.1 k_ e_.symm)) hs_)); rintro e w14 ⟨rfl, hy0, hb, hkp⟩; refine ⟨_, rfl, ?_⟩; replace HK := Aside0.mk (Kept.then_ (S := (fun k_ => P0_ k_)) (hz HK.out) hkp (fun k_ hs_ => (fun e_ => (HO_0.out.1 k_ e_.symm)) hs_)); replace HO_0 := Aside0.mk (Kd.R_reok rfl hy0 (fun k_ e_ => HO_0.out.1 k_ e_)); replace HB := Aside0.mk (hb); (try clear hb); (try clear hkp); (try clear hy0)))
        (try simp only [← hl0_3])
        go_roundg k3
        case measure => have := HK1.out; have := HK2.out; have := HK3.out; omega
        case rel => exact ⟨(t103), (x8_3), (wrap64 (x8_3 + (wrap64 (2 * x6_2)))), (by first | rfl | (simp; done) | (simp [*]; done)), (by first | rfl | (simp; done) | (simp [*]; done)), H', ⟨by have := HK1.out; have := HK2.out; have := HK3.out; omega⟩, ⟨by (try simp only [hl0_2]); (try simp only [hl0_3]); (with_reducible repeat (first | apply Kd.R_alloc | apply Kd.R_drewN | apply Kd.cu_)); exact HO_0.out⟩, ⟨hz HK.out⟩, ⟨bz HB.out⟩⟩
   rw [if_pos c4] at H
   have c4b0 : decide (x8_1 ≤ a1) = true := decide_eq_true c4
   clear c4
   replace H := Option.bind_eq_some_iff.mp H
   obtain ⟨t101, A50, H⟩ := H
   (try dsimp only at H)
   have A5 := Aside0.mk A50
   clear A50
   have H' := Aside0.mk H
   clear H
   obtain ⟨Ao6, co6, eo6⟩ := Kd.bP_ HO_0.out
   subst eo6
   go_wp2_with (first | ((with_reducible refine av_ (f := 99) rfl ?_); refine bo_ (some 18) rfl rfl Try.func99 (by kernel_rfl) rfl #[.slice Ao6 x0_1.length co6, .int .i64 x7_1, .int .i64 x8_1, .func (.func 73) #[] #[.pointer A2c0, .pointer A2c1]] rfl (by first | rfl | (simp only [lma_, lmc_, lmn_]; first | done | rfl)) ?_; (with_reducible refine (ab_.calls k1 (fun k_ => some k_ = (.slice Ao6 x0_1.length co6 : Value).ownBlock) (.slice Ao6 x0_1.length co6) x0_1 x7_1 x8_1 _ l2c0 _ l2c1 t101 w0 _ ?side1 ?side2 ?side3 ?side4 A5.out).mono ?_); (case side1 => exact bz HB.out); (case side2 => exact Kd.R_tight rfl HO_0.out); (case side3 => exact Kd.cb_ HR2c0.out (hz HK.out) (fun k_ hs_ => (fun e_ => (HO_0.out.1 k_ e_.symm)) hs_)); (case side4 => exact Kd.cb_ HR2c1.out (hz HK.out) (fun k_ hs_ => (fun e_ => (HO_0.out.1 k_ e_.symm)) hs_)); rintro e w7 ⟨rfl, hy0, hb, hkp⟩; refine ⟨_, rfl, ?_⟩; replace HK := Aside0.mk (Kept.then_ (S := (fun k_ => P0_ k_)) (hz HK.out) hkp (fun k_ hs_ => (fun e_ => (HO_0.out.1 k_ e_.symm)) hs_)); replace HO_0 := Aside0.mk (Kd.R_reok rfl hy0 (fun k_ e_ => HO_0.out.1 k_ e_)); replace HB := Aside0.mk (hb); (try clear hb); (try clear hkp); (try clear hy0)))
   go_roundg k1
   case measure => have := HK1.out; omega
   case rel => exact ⟨(t101), (x8_1), (wrap64 (x8_1 + 20)), (by first | rfl | (simp; done) | (simp [*]; done)), (by first | rfl | (simp; done) | (simp [*]; done)), H', ⟨by have := HK1.out; omega⟩, ⟨rz HO_0.out⟩, ⟨hz HK.out⟩, ⟨bz HB.out⟩⟩
def bh_.f (k : Nat) (l0 : List Int) (l1c0 : List (List (S28))) (l1c1 : List (S28)) : Option (List Int) := (ak_.f k l0 (l0.length : Int) l1c0 l1c1).bind fun t101 => (some t101)
set_option maxHeartbeats 8000000 in
set_option maxRecDepth 100000 in
theorem bh_.calls (k : Nat) (P0_ : Nat → Prop) (u9000_ : Value) (l0 : List Int) (A1c0 : Option Addr) (l1c0 : List (List (S28))) (A1c1 : Option Addr) (l1c1 : List (S28)) (r : List Int) (w0 w : World) (hB : Below w0.heap.size w0 w) (ho0 : Kd.R (Kd.int .i64) 2 w w0.heap.size P0_ u9000_ l0) (hr1c0 : ∀ W_, Kept w W_ (fun k_ => P0_ k_) → Kd.C (Kd.slice 28 k28) W_ A1c0 l1c0.length l1c0) (hr1c1 : ∀ W_, Kept w W_ (fun k_ => P0_ k_) → Kd.C k28 W_ A1c1 l1c1.length l1c1) (h : bh_.f k l0 l1c0 l1c1 = some r) :
  Calls Try.prog 72 #[u9000_, .func (.func 73) #[] #[.pointer A1c0, .pointer A1c1]] w fun e w' => e = .returned (.tuple #[]) ∧ Kd.R (Kd.int .i64) 2 w' w0.heap.size (fun k_ => (P0_ k_ ∨ w.heap.size ≤ k_)) u9000_ r ∧ Below w0.heap.size w0 w' ∧ Kept w w' (fun k_ => P0_ k_) := by
 have HO0 := Aside0.mk (show Kd.R (Kd.int .i64) 2 w w0.heap.size (fun k_ => (P0_ k_ ∨ w.heap.size ≤ k_)) u9000_ l0 from Kd.bp_ ho0 (fun k_ hk => (.inl hk)))
 have HR1c0 := Aside0.mk hr1c0
 clear hr1c0
 have HR1c1 := Aside0.mk hr1c1
 clear hr1c1
 have HK := Aside0.mk (Kept.refl w (fun k_ => P0_ k_))
 have HW0 := Aside0.mk hB.size
 have HB := Aside0.mk hB
 clear hB
 have H : ((ak_.f k l0 (l0.length : Int) l1c0 l1c1).bind fun t101 => (some t101)) = some r := h
 clear h
 replace H := Option.bind_eq_some_iff.mp H
 obtain ⟨t101, A30, H⟩ := H
 (try dsimp only at H)
 have A3 := Aside0.mk A30
 clear A30
 obtain rfl := Option.some.inj H
 obtain ⟨Ao4, co4, eo4⟩ := Kd.bP_ HO0.out
 subst eo4
 go_enter Try.func72, Try.ntmps72
 go_wp2_with (first | ((with_reducible refine av_ (f := 95) rfl ?_); refine bo_ (some 8) rfl rfl Try.func95 (by kernel_rfl) rfl #[.slice Ao4 l0.length co4, .int .i64 (l0.length : Int), .func (.func 73) #[] #[.pointer A1c0, .pointer A1c1]] rfl (by first | rfl | (simp only [lma_, lmc_, lmn_]; first | done | rfl)) ?_; (with_reducible refine (ak_.calls k (fun k_ => some k_ = (.slice Ao4 l0.length co4 : Value).ownBlock) (.slice Ao4 l0.length co4) l0 (l0.length : Int) _ l1c0 _ l1c1 t101 w0 _ ?side1 ?side2 ?side3 ?side4 A3.out).mono ?_); (case side1 => exact bz HB.out); (case side2 => exact Kd.R_tight rfl HO0.out); (case side3 => exact Kd.cb_ HR1c0.out (hz HK.out) (fun k_ hs_ => (fun e_ => (HO0.out.1 k_ e_.symm)) hs_)); (case side4 => exact Kd.cb_ HR1c1.out (hz HK.out) (fun k_ hs_ => (fun e_ => (HO0.out.1 k_ e_.symm)) hs_)); rintro e w5 ⟨rfl, hy0, hb, hkp⟩; refine ⟨_, rfl, ?_⟩; replace HK := Aside0.mk (Kept.then_ (S := (fun k_ => P0_ k_)) (hz HK.out) hkp (fun k_ hs_ => (fun e_ => (HO0.out.1 k_ e_.symm)) hs_)); replace HO0 := Aside0.mk (Kd.R_reok rfl hy0 (fun k_ e_ => HO0.out.1 k_ e_)); replace HB := Aside0.mk (hb); (try clear hb); (try clear hkp); (try clear hy0)))
 first | go_end0 | ((try simp only [Exit.inBlock, Exit.then]); refine bodyPost_ret (results_none rfl _ _ _) rfl ?_)
 exact ⟨by first | rfl | (simp [*, aH_, aG_] <;> rfl), rz HO0.out, bz HB.out, hz HK.out⟩
mutual
def al_.j0 : Nat → Bool → List (S28) → ByteArray → List Int → Option (List Int × Int)
 | 0, _, _, _, _ => none
 | k + 1, x15, x102000, x103000, x103001 => if x15 = true then (some (([] : List Int), 1)) else (al_.l0 k (([] : List Int)) (x102000.length : Int) 0 x102000 x103000 x103001)
def al_.l0 : Nat → List Int → Int → Int → List (S28) → ByteArray → List Int → Option (List Int × Int)
 | 0, _, _, _, _, _, _ => none
 | k + 1, x6, x18, x19, x102000, x103000, x103001 => if x19 < x18 then (if x6.length < 17592186044416 then (al_.l0 k (x6 ++ [x19]) x18 (wrap64 (x19 + 1)) x102000 x103000 x103001) else (none)) else ((bh_.f k x6 [x102000] [(⟨x103000, x103001⟩ : S28)]).bind fun t111 => (some (t111, 0)))
end
def al_.f (k : Nat) (l0 : List (S28)) (a1_0 : ByteArray) (l1_1 : List Int) : Option (List Int × Int) := (an_.f k l0).bind fun t103 => (if t103 = true then ((aE_.f k a1_0 l1_1).bind fun t104 => (al_.j0 k (!t104) l0 a1_0 l1_1)) else (al_.j0 k true l0 a1_0 l1_1))
set_option maxHeartbeats 8000000 in
set_option maxRecDepth 100000 in
theorem al_.calls (k : Nat) (A0 : Option Addr) (c0 : Nat) (l0 : List (S28)) (a1_0 : ByteArray) (A1_1 : Option Addr) (c1_1 : Nat) (l1_1 : List Int) (r1 : List Int) (r2 : Int) (w : World) (hr0 : Kd.C k28 w A0 l0.length l0) (hc0 : l0.length ≤ c0) (hr1_1 : Kd.C (Kd.int .i64) w A1_1 l1_1.length l1_1) (hc1_1 : l1_1.length ≤ c1_1) (h : al_.f k l0 a1_0 l1_1 = some (r1, r2)) :
  Calls Try.prog 40 #[.slice A0 l0.length c0, .agg #[.string a1_0, .slice A1_1 l1_1.length c1_1]] w fun e w' => ∃ v0_ : Value, e = .returned (.tuple #[v0_, .int .i64 r2]) ∧ Kd.R (Kd.int .i64) 2 w' w.heap.size (fun _ => True) v0_ r1 ∧ Below w.heap.size w w' := by
 have hu28 := Try.underlying28
 have HR0 := Aside0.mk hr0
 have HC0 := Aside0.mk hc0
 clear hr0 hc0
 have HR1_1 := Aside0.mk hr1_1
 have HC1_1 := Aside0.mk hc1_1
 clear hr1_1 hc1_1
 have HB := Aside0.mk (Below.refl w.heap.size w)
 have H : ((an_.f k l0).bind fun t103 => (if t103 = true then ((aE_.f k a1_0 l1_1).bind fun t104 => (al_.j0 k (!t104) l0 a1_0 l1_1)) else (al_.j0 k true l0 a1_0 l1_1))) = some (r1, r2) := h
 clear h
 have HC3 := Aside0.mk H
 clear H
 go_enter Try.func40, Try.ntmps40
 go_upto_region 1 with (first | ((with_reducible refine bg_ (N := 2) rfl ?_); refine bt_ ?hg (N := 2) ?hd (cs := #[.slice A0 l0.length c0]) (t := 35) ?hr ?_; (case hd => rfl); (case hg => rfl); (case hr => (go_simp; try rfl)); intro gb101 hg w4 hbox hb; have BK101 := Aside0.mk (hbox); have GW101 := Aside0.mk ((by rw [hg]; exact (aA_ (bz HB.out)) : w.heap.size ≤ gb101)); have GE101 := GW101; replace HB := Aside0.mk (am_ (bz HB.out) hb); clear hb hbox hg) | ((with_reducible refine bg_ (N := 3) rfl ?_); refine bt_ ?hg (N := 3) ?hd (cs := #[.string a1_0, .slice A1_1 l1_1.length c1_1]) (t := 28) ?hr ?_; (case hd => rfl); (case hg => rfl); (case hr => (go_simp; try rfl)); intro gb102 hg w5 hbox hb; have BK102 := Aside0.mk (hbox); have GW102 := Aside0.mk ((by rw [hg]; exact (aA_ (bq)) : w.heap.size ≤ gb102)); have GE102 := GW102; replace HB := Aside0.mk (am_ (bq) hb); have NB101_102 := Aside0.mk ((by rw [hg]; exact Nat.ne_of_lt (bX_ (kz BK101.out)) : gb101 ≠ gb102)); have NB102_101 := Aside0.mk ((by rw [hg]; exact Nat.ne_of_gt (bX_ (kz BK101.out)) : gb102 ≠ gb101)); replace BK101 := Aside0.mk (ag_ (kz BK101.out) hb); clear hb hbox hg))
 (try simp only [Act.put, lsa_, ls0_, ls1_])
 go_cut [15] (fun v15 wc => ∃ (kq : Nat) (x15_2 : Bool), v15 = .bool x15_2 ∧ Aside0 (al_.j0 kq x15_2 l0 a1_0 l1_1 = some (r1, r2)) ∧ Aside0 (kq ≤ k) ∧ Aside0 (wc.heap[gb101]? = some (.cells #[(.slice A0 l0.length c0)] 35 (0, 0))) ∧ Aside0 (wc.heap[gb102]? = some (.cells #[.string a1_0, (.slice A1_1 l1_1.length c1_1)] 28 (0, 0))) ∧ Aside0 (Below w.heap.size w wc))
 case first =>
  have H := HC3.out
  clear HC3
  replace H := Option.bind_eq_some_iff.mp H
  obtain ⟨t103, A60, H⟩ := H
  (try dsimp only at H)
  have A6 := Aside0.mk A60
  clear A60
  by_cases c7 : t103 = true
  rotate_left
  ·replace c7 := Bool.eq_false_iff.mpr c7
   subst c7
   have H1 : (al_.j0 k true l0 a1_0 l1_1) = some (r1, r2) := by rw [if_neg (show ¬ (false = true) by decide)] at H; exact H
   clear H
   have H := H1
   clear H1
   have H' := Aside0.mk H
   clear H
   have hnb14 := NB101_102.out
   have hnc14 := NB102_101.out
   have hcz15_0 : w5.cell? ⟨gb101, 0, none⟩ = some (.slice A0 l0.length c0) := (aM_ BK101.out 0).trans rfl
   have hfz15_0 := bH_ BK101.out 0
   go_wp2_with (first | ((with_reducible refine av_ (f := 20) rfl ?_); refine bo_ (some 9) rfl rfl Try.func20 (by kernel_rfl) rfl #[.slice A0 l0.length c0] rfl (by first | rfl | (simp only [lma_, lmc_, lmn_]; first | done | rfl)) ?_; (with_reducible refine (an_.calls k _ _ l0 false _ ?side1 ?side2 A6.out).mono ?_); (case side1 => exact cz (Kd.bi_ HR0.out HB.out)); (case side2 => exact HC0.out); rintro e w16 ⟨rfl, hb⟩; refine ⟨_, rfl, ?_⟩; replace BK101 := Aside0.mk (ag_ (kz BK101.out) hb); replace BK102 := Aside0.mk (ag_ (kz BK102.out) hb); replace HB := Aside0.mk (am_ (bq) hb); (try clear hb)))
   go_meet
   case rel => exact ⟨_, (true), (by first | rfl | (simp; done) | (simp [*]; done)), H', ⟨by first | omega | exact Nat.le_refl _⟩, ⟨by (with_reducible repeat (first | refine aK_ ?_ _ | refine ay_ ?_ | refine aI_ ?_ _)); exact BK101.out⟩, ⟨by (with_reducible repeat (first | refine aK_ ?_ _ | refine ay_ ?_ | refine aI_ ?_ _)); exact BK102.out⟩, ⟨bq⟩⟩
  subst c7
  have H1 : ((aE_.f k a1_0 l1_1).bind fun t104 => (al_.j0 k (!t104) l0 a1_0 l1_1)) = some (r1, r2) := by rw [if_pos rfl] at H; exact H
  clear H
  have H := H1
  clear H1
  replace H := Option.bind_eq_some_iff.mp H
  obtain ⟨t104, A80, H⟩ := H
  (try dsimp only at H)
  have A8 := Aside0.mk A80
  clear A80
  have H' := Aside0.mk H
  clear H
  have hnb9 := NB101_102.out
  have hnc9 := NB102_101.out
  have hcz10_0 : w5.cell? ⟨gb101, 0, none⟩ = some (.slice A0 l0.length c0) := (aM_ BK101.out 0).trans rfl
  have hfz10_0 := bH_ BK101.out 0
  go_wp2_with (first | ((with_reducible refine av_ (f := 20) rfl ?_); refine bo_ (some 9) rfl rfl Try.func20 (by kernel_rfl) rfl #[.slice A0 l0.length c0] rfl (by first | rfl | (simp only [lma_, lmc_, lmn_]; first | done | rfl)) ?_; (with_reducible refine (an_.calls k _ _ l0 true _ ?side1 ?side2 A6.out).mono ?_); (case side1 => exact cz (Kd.bi_ HR0.out HB.out)); (case side2 => exact HC0.out); rintro e w11 ⟨rfl, hb⟩; refine ⟨_, rfl, ?_⟩; replace BK101 := Aside0.mk (ag_ (kz BK101.out) hb); replace BK102 := Aside0.mk (ag_ (kz BK102.out) hb); replace HB := Aside0.mk (am_ (bq) hb); (try clear hb); obtain ⟨hcz12_0, hcz12_1⟩ := cz2_ BK102.out; obtain ⟨hfz12_0, hfz12_1⟩ := fz2_ BK102.out) | (go_at_call 52; (with_reducible refine (aE_.calls k a1_0 _ _ l1_1 t104 _ ?side1 ?side2 A8.out).mono ?_); (case side1 => exact cz (Kd.bi_ HR1_1.out HB.out)); (case side2 => exact HC1_1.out); rintro e w13 ⟨rfl, hb⟩; replace BK101 := Aside0.mk (ag_ (kz BK101.out) hb); replace BK102 := Aside0.mk (ag_ (kz BK102.out) hb); replace HB := Aside0.mk (am_ (bq) hb); (try clear hb)))
  go_meet
  case rel => exact ⟨_, (!t104), (by first | rfl | (simp; done) | (simp [*]; done)), H', ⟨by first | omega | exact Nat.le_refl _⟩, ⟨by (with_reducible repeat (first | refine aK_ ?_ _ | refine ay_ ?_ | refine aI_ ?_ _)); exact BK101.out⟩, ⟨by (with_reducible repeat (first | refine aK_ ?_ _ | refine ay_ ?_ | refine aI_ ?_ _)); exact BK102.out⟩, ⟨bq⟩⟩
 case rest =>
  clear HC3
  obtain ⟨kq, x15_2, rfl, HA, HJ2, BK101, BK102, HB⟩ := hcut
  cases kq with
  | zero => exact absurd HA.out (by simp [al_.j0])
  | succ kj2 =>
   have H := HA.out
   clear HA
   simp only [al_.j0] at H
   by_cases c17 : x15_2 = true
   rotate_left
   ·replace c17 := Bool.eq_false_iff.mpr c17
    subst c17
    have H1 : (al_.l0 kj2 (([] : List Int)) (l0.length : Int) 0 l0 a1_0 l1_1) = some (r1, r2) := by rw [if_neg (show ¬ (false = true) by decide)] at H; exact H
    clear H
    have H := H1
    clear H1
    obtain ⟨y105, hy105⟩ : ∃ y_ : List Int, y_ = (([] : List Int)) := ⟨_, rfl⟩
    replace H : (al_.l0 kj2 y105 (l0.length : Int) 0 l0 a1_0 l1_1) = some (r1, r2) := by first | (rw [hy105]; with_reducible exact H) | (have H2_ := (Option.bind_some _ _).symm.trans H; rw [hy105]; with_reducible exact H2_) | (have H2_ := (Option.bind_some _ _).symm.trans H; with_reducible exact H2_) | with_reducible exact H | (rw [hy105]; exact H) | exact H
    have Ny105 := Aside0.mk hy105
    clear hy105
    have H' := Aside0.mk H
    clear H
    go_wp2_with (first | ((with_reducible refine bg_ (N := 16) rfl ?_); refine Kd.R_lit (Kd.int .i64) _ 2 ?hg (N := 16) ?hd (xs := ([] : List Int)) (inner := []) (ok := fun _ => True) (okp := fun _ => True) ?hr ?hp (fun _ hk => hk) trivial (Below.refl _ _) (Nat.le_refl _) (by simp) ?_; (case hd => rfl); (case hg => rfl); (case hr => (go_simp; try rfl)); (case hp => exact (Reps.none _ _)); intro v106 w18 ho19 hb hg_ hnew_; clear hg_ hnew_; (first | rw [← Ny105.out] at ho19 | (simp only [Int.reduceToNat] at ho19; rw [← Ny105.out] at ho19)); have HO107 := Aside0.mk (Kd.bM_ ho19 (aA_ (bq))); replace BK101 := Aside0.mk (ag_ (kz BK101.out) hb); replace BK102 := Aside0.mk (ag_ (kz BK102.out) hb); replace HB := Aside0.mk (am_ (bq) hb); clear hb ho19; have hnb20 := NB101_102.out; have hnc20 := NB102_101.out; have hcz21_0 : w18.cell? ⟨gb101, 0, none⟩ = some (.slice A0 l0.length c0) := (aM_ BK101.out 0).trans rfl; have hfz21_0 := bH_ BK101.out 0))
    (try simp only [Act.put, lsa_, ls0_, ls1_])
    go_loopg [6, 19] kj2 (fun kq v6 v19 w' => ∃ (x6_2 : List Int) (x19_2 : Int), v19 = .int .i64 x19_2 ∧ Aside0 (al_.l0 kq x6_2 (l0.length : Int) x19_2 l0 a1_0 l1_1 = some (r1, r2)) ∧ Aside0 (kq ≤ kj2) ∧ Aside0 (Kd.R (Kd.int .i64) 2 w' w.heap.size (fun _ => True) v6 x6_2) ∧ Aside0 (w'.heap[gb101]? = some (.cells #[(.slice A0 l0.length c0)] 35 (0, 0))) ∧ Aside0 (w'.heap[gb102]? = some (.cells #[.string a1_0, (.slice A1_1 l1_1.length c1_1)] 28 (0, 0))) ∧ Aside0 (Below w.heap.size w w'))
    case atStart => exact ⟨(y105), (0), (by first | rfl | (simp; done) | (simp [*]; done)), H', ⟨Nat.le_refl _⟩, ⟨rz HO107.out⟩, ⟨by (with_reducible repeat (first | refine aK_ ?_ _ | refine ay_ ?_ | refine aI_ ?_ _)); exact BK101.out⟩, ⟨by (with_reducible repeat (first | refine aK_ ?_ _ | refine ay_ ?_ | refine aI_ ?_ _)); exact BK102.out⟩, ⟨bq⟩⟩
    case round =>
     clear H'
     obtain ⟨x6_2, x19_2, rfl, HA, HK2, HO_6, BK101, BK102, HB⟩ := hrel
     cases gk with
     | zero => exact absurd HA.out (by simp [al_.l0])
     | succ k2 =>
      have H := HA.out
      clear HA
      simp only [al_.l0] at H
      by_cases c22 : x19_2 < (l0.length : Int)
      rotate_left
      ·rw [if_neg c22] at H
       have c22b0 : decide (x19_2 < (l0.length : Int)) = false := decide_eq_false c22
       clear c22
       replace H := Option.bind_eq_some_iff.mp H
       obtain ⟨t111, A250, H⟩ := H
       (try dsimp only at H)
       have A25 := Aside0.mk A250
       clear A250
       simp only [Option.some.injEq, Prod.mk.injEq] at H
       obtain ⟨rfl, rfl⟩ := H
       obtain ⟨Ao26, co26, eo26⟩ := Kd.bP_ HO_6.out
       subst eo26
       go_wp2_with (first | ((with_reducible refine av_ (f := 72) rfl ?_); refine bo_ (some 29) rfl rfl Try.func72 (by kernel_rfl) rfl #[.slice Ao26 x6_2.length co26, .func (.func 73) #[] #[.pointer (some (Addr.add ⟨gb101, 0, none⟩ 0)), .pointer (some (Addr.add ⟨gb102, 0, none⟩ 0))]] rfl (by first | rfl | (simp only [lma_, lmc_, lmn_]; first | done | rfl)) ?_; (with_reducible refine (bh_.calls k2 (fun k_ => some k_ = (.slice Ao26 x6_2.length co26 : Value).ownBlock) (.slice Ao26 x6_2.length co26) x6_2 _ [l0] _ [(⟨a1_0, l1_1⟩ : S28)] t111 w _ ?side1 ?side2 ?side3 ?side4 A25.out).mono ?_); (case side1 => repeat (first | (with_reducible first | exact HB.out | apply bA_ | apply bN_ | apply bD_ | refine ad_ ?_ GE101.out | refine ad_ ?_ GE102.out))); (case side2 => exact Kd.R_tight rfl HO_6.out); (case side3 => exact fun W_ hK_ => RPW.C_blk (cs := [.slice A0 l0.length c0]) (t := 35) (g := gb101) (blk_kept (kz BK101.out) hK_ (fun hs_ => (fun e_ => (Kd.R_ne HO_6.out BK101.out (by decide)) e_) hs_)) ⟨_, _, rfl, (by exact HC0.out), ((Kd.C_kept_came k28_heap HR0.out (bq) (fun k_ hs_ => (fun e_ => Kd.cr_ HO_6.out k_ e_.symm) hs_)) W_ hK_)⟩); (case side4 => exact fun W_ hK_ => (RPW.C_blk (cs := [.string a1_0, .slice A1_1 l1_1.length c1_1]) (t := 28) (g := gb102) (blk_kept (kz BK102.out) hK_ (fun hs_ => (fun e_ => (Kd.R_ne HO_6.out BK102.out (by decide)) e_) hs_)) (k28_mk _ (⟨a1_0, l1_1⟩ : S28) (by exact HC1_1.out) ((Kd.C_kept_came (Kd.heap_int .i64) HR1_1.out (bq) (fun k_ hs_ => (fun e_ => Kd.cr_ HO_6.out k_ e_.symm) hs_)) W_ hK_)))); rintro e w27 ⟨rfl, hy0, hb, hkp⟩; refine ⟨_, rfl, ?_⟩; replace BK101 := Aside0.mk (blk_kept (kz BK101.out) hkp (fun hs_ => (fun e_ => (Kd.R_ne HO_6.out BK101.out (by decide)) e_) hs_)); replace BK102 := Aside0.mk (blk_kept (kz BK102.out) hkp (fun hs_ => (fun e_ => (Kd.R_ne HO_6.out BK102.out (by decide)) e_) hs_)); replace HO_6 := Aside0.mk (Kd.R_reok rfl hy0 (fun k_ e_ => HO_6.out.1 k_ e_)); replace HB := Aside0.mk (hb); (try clear hb); (try clear hkp); (try clear hy0)))
       go_ret2
       exact ⟨_, by first | rfl | (simp [*, aH_, aG_] <;> rfl), rz HO_6.out, bq⟩
      rw [if_pos c22] at H
      have c22b0 : decide (x19_2 < (l0.length : Int)) = true := decide_eq_true c22
      clear c22
      by_cases c23 : x6_2.length < 17592186044416
      rotate_left
      ·rw [if_neg c23] at H
       exact absurd H (by simp)
      rw [if_pos c23] at H
      have LMc23 := Aside0.mk c23
      clear c23
      obtain ⟨y108, hy108⟩ : ∃ y_ : List Int, y_ = (x6_2 ++ [x19_2]) := ⟨_, rfl⟩
      replace H : (al_.l0 k2 y108 (l0.length : Int) (wrap64 (x19_2 + 1)) l0 a1_0 l1_1) = some (r1, r2) := by first | (rw [hy108]; with_reducible exact H) | (have H2_ := (Option.bind_some _ _).symm.trans H; rw [hy108]; with_reducible exact H2_) | (have H2_ := (Option.bind_some _ _).symm.trans H; with_reducible exact H2_) | with_reducible exact H | (rw [hy108]; exact H) | exact H
      have Ny108 := Aside0.mk hy108
      clear hy108
      have H' := Aside0.mk H
      clear H
      go_wp2_with (first | ((with_reducible refine bx_ (b := .append) (xs := #[.tmp 22, .tmp 24]) rfl ?_); at_builtin; refine Kd.cD_ (Kd.int .i64) (w0 := w) w.heap.size rfl (.tmp 22) (.tmp 24) 22 2 (.int .i64 0) 8 rfl Try.underlying22 info2 rfl (by decide) (by omega) u6 x6_2 x19_2 [.int .i64 x19_2] (fun _ => True) (fun _ => False) rfl rfl ?aP (fun _ hk => hk.elim) ?aF ?aO ?aB ?aS ?aL ?_; (case aP => exact rfl); (case aB => exact (bq)); (case aF => exact (fun _ _ => trivial)); (case aO => exact (rz HO_6.out)); (case aS => exact (aA_ (bq))); (case aL => have := LMc23.out; omega); intro v109 w24 ho hb hg hat; rw [← Ny108.out] at ho; replace BK101 := Aside0.mk (blk_grown (g := gb101) (o := .cells #[.slice A0 l0.length c0] 35 (0, 0)) (kz BK101.out) hg (Kd.R_ne HO_6.out BK101.out (by decide))); replace BK102 := Aside0.mk (blk_grown (g := gb102) (o := .cells #[.string a1_0, .slice A1_1 l1_1.length c1_1] 28 (0, 0)) (kz BK102.out) hg (Kd.R_ne HO_6.out BK102.out (by decide))); replace HB := Aside0.mk (hb); have HO110 := Aside0.mk (ho); clear HO_6; clear ho hb hg hat))
      go_roundg k2
      case measure => have := HJ2.out; have := HK2.out; omega
      case rel => exact ⟨(y108), (wrap64 (x19_2 + 1)), (by first | rfl | (simp; done) | (simp [*]; done)), H', ⟨by have := HJ2.out; have := HK2.out; omega⟩, ⟨rz HO110.out⟩, ⟨by (with_reducible repeat (first | refine aK_ ?_ _ | refine ay_ ?_ | refine aI_ ?_ _)); exact BK101.out⟩, ⟨by (with_reducible repeat (first | refine aK_ ?_ _ | refine ay_ ?_ | refine aI_ ?_ _)); exact BK102.out⟩, ⟨bq⟩⟩
   subst c17
   have H1 : (some (([] : List Int), 1)) = some (r1, r2) := by rw [if_pos rfl] at H; exact H
   clear H
   have H := H1
   clear H1
   simp only [Option.some.injEq, Prod.mk.injEq] at H
   obtain ⟨rfl, rfl⟩ := H
   go_wp2
   go_ret2
   exact ⟨_, by first | rfl | (simp [*, aH_, aG_] <;> rfl), by first | exact Kd.R_nil _ _ _ _ _ | exact Kd.N_nil _ _ _ _ _ | exact Kd.V_nil _ _ _ _ _ | exact Kd.Q_nil _ _ _ _ _ | exact Kd.S_nil _ _ _ _ _, bq⟩
def aC_.j0 : Nat → List (S28) → List Int → Int → Bool → ByteArray → List Int → Option (Int × Int × Int)
 | 0, _, _, _, _, _, _ => none
 | k + 1, x0, x7, x8, x21, x102000, x102001 => if x21 = true then (some (0, 0, 3)) else (if x8 = 0 then (if 0 < (x7.length : Int) then (if 0 ≤ (rd x7 0) then (if (rd x7 0) < (x0.length : Int) then ((aj_.f k ((af_ x0 (rd x7 0)).f0) ((af_ x0 (rd x7 0)).f1) x102000 x102001).bind fun t109 => (some (rd x7 0, t109, 0))) else (none)) else (none)) else (none)) else (some (0, 0, x8)))
def aC_.f (k : Nat) (l0 : List (S28)) (a1_0 : ByteArray) (l1_1 : List Int) : Option (Int × Int × Int) := (al_.f k l0 a1_0 l1_1).bind fun bt102 => (if bt102.2 = 0 then (aC_.j0 k l0 bt102.1 bt102.2 ((l0.length : Int) == 0) a1_0 l1_1) else (aC_.j0 k l0 bt102.1 bt102.2 false a1_0 l1_1))
def aC_.T6 : Bool × List (List Nat × List Nat) := (true, [([], []), ([0], [0]), ([1], [1]), ([], []), ([], []), ([4], [4]), ([5], [5]), ([3, 6], [3, 6]), ([7], [7]), ([], []), ([8, 9], [8, 9]), ([2, 10, 0, 1, 2], [2]), ([10, 11, 0, 1, 2, 3, 4, 5, 6, 7, 8, 9, 10, 11], [10]), ([12, 0, 1, 2, 3, 4, 5, 6, 7, 8, 9, 10, 11, 12], [])])
def aC_.B6 : List Nat := [0, 1, 3, 0, 0, 16, 48, 120, 248, 0, 1016, 2047, 4095, 8191]
theorem aC_.tab6 : rtab .any (opsOf Try.f41 6) = aC_.T6 := by kernel_rfl
theorem aC_.bits6 : cy_ aC_.T6.2 aC_.B6 = true := by kernel_rfl
set_option maxHeartbeats 8000000 in
set_option maxRecDepth 100000 in
theorem aC_.calls (k : Nat) (A0 : Option Addr) (c0 : Nat) (l0 : List (S28)) (a1_0 : ByteArray) (A1_1 : Option Addr) (c1_1 : Nat) (l1_1 : List Int) (r1 : Int) (r2 : Int) (r3 : Int) (w : World) (hr0 : Kd.C k28 w A0 l0.length l0) (hc0 : l0.length ≤ c0) (hr1_1 : Kd.C (Kd.int .i64) w A1_1 l1_1.length l1_1) (hc1_1 : l1_1.length ≤ c1_1) (h : aC_.f k l0 a1_0 l1_1 = some (r1, r2, r3)) :
  Calls Try.prog 41 #[.slice A0 l0.length c0, .agg #[.string a1_0, .slice A1_1 l1_1.length c1_1]] w fun e w' => e = .returned (.tuple #[.int .i64 r1, .int .i64 r2, .int .i64 r3]) ∧ Below w.heap.size w w' := by
 have hu28 := Try.underlying28
 have HR0 := Aside0.mk hr0
 have HC0 := Aside0.mk hc0
 clear hr0 hc0
 have HR1_1 := Aside0.mk hr1_1
 have HC1_1 := Aside0.mk hc1_1
 clear hr1_1 hc1_1
 have HB := Aside0.mk (Below.refl w.heap.size w)
 have H : ((al_.f k l0 a1_0 l1_1).bind fun bt102 => (if bt102.2 = 0 then (aC_.j0 k l0 bt102.1 bt102.2 ((l0.length : Int) == 0) a1_0 l1_1) else (aC_.j0 k l0 bt102.1 bt102.2 false a1_0 l1_1))) = some (r1, r2, r3) := h
 clear h
 replace H := Option.bind_eq_some_iff.mp H
 obtain ⟨⟨t102, t105⟩, A30, H⟩ := H
 (try dsimp only at H)
 have A3 := Aside0.mk A30
 clear A30
 have HC4 := Aside0.mk H
 clear H
 go_enter Try.func41, Try.ntmps41
 go_upto_region 2 with (first | ((with_reducible refine bg_ (N := 3) rfl ?_); (try (refine cz_ (by rfl) ?_; dsimp only)); refine bt_ ?hg (N := 3) ?hd (cs := #[.string a1_0, .slice A1_1 l1_1.length c1_1]) (t := 28) ?hr ?_; (case hd => rfl); (case hg => rfl); (case hr => (go_simp; try rfl)); intro gb101 hg w5 hbox hb; have BK101 := Aside0.mk (hbox); have GW101 := Aside0.mk ((by rw [hg]; exact (aA_ (bz HB.out)) : w.heap.size ≤ gb101)); have GE101 := GW101; replace HB := Aside0.mk (am_ (bz HB.out) hb); clear hb hbox hg; obtain ⟨hcz6_0, hcz6_1⟩ := cz2_ BK101.out; obtain ⟨hfz6_0, hfz6_1⟩ := fz2_ BK101.out) | ((with_reducible refine av_ (f := 40) rfl ?_); refine bo_ (some 12) rfl rfl Try.func40 (by kernel_rfl) rfl #[.slice A0 l0.length c0, .agg #[.string a1_0, .slice A1_1 l1_1.length c1_1]] rfl (by first | rfl | (simp only [lma_, lmc_, lmn_]; first | done | rfl)) ?_; (with_reducible refine (al_.calls k _ _ l0 a1_0 _ _ l1_1 t102 t105 _ ?side1 ?side2 ?side3 ?side4 A3.out).mono ?_); (case side1 => exact cz (Kd.bi_ HR0.out HB.out)); (case side2 => exact HC0.out); (case side3 => exact cz (Kd.bi_ HR1_1.out HB.out)); (case side4 => exact HC1_1.out); rintro e w7 ⟨v103, rfl, ho0, hb⟩; refine ⟨_, rfl, ?_⟩; have HO104 := Aside0.mk (Kd.bM_ ho0 (aA_ (bq))); replace BK101 := Aside0.mk (ag_ (kz BK101.out) hb); replace HB := Aside0.mk (am_ (bq) hb); (try clear hb); (try clear ho0)))
 (try simp only [Act.put, lsa_, ls0_, ls1_])
 go_cut [21] (fun v21 wc => ∃ (kq : Nat) (x21_3 : Bool), v21 = .bool x21_3 ∧ Aside0 (aC_.j0 kq l0 t102 t105 x21_3 a1_0 l1_1 = some (r1, r2, r3)) ∧ Aside0 (kq ≤ k) ∧ Aside0 (Kd.R (Kd.int .i64) 2 wc w.heap.size (fun _ => True) v103 t102) ∧ Aside0 (wc.heap[gb101]? = some (.cells #[.string a1_0, (.slice A1_1 l1_1.length c1_1)] 28 (0, 0))) ∧ Aside0 (Below w.heap.size w wc))
 case first =>
  have H := HC4.out
  clear HC4
  by_cases c8 : t105 = 0
  rotate_left
  ·rw [if_neg c8] at H
   have c8b0 : (t105 == 0) = false := beq_eq_false_iff_ne.mpr c8
   have c8b1 : (t105 != 0) = true := bne_iff_ne.mpr c8
   (first | rw [c8b0] | (simp only [i64_w, i32_w]; rw [c8b0]) | (simp only [c8b1, Bool.not_true, Bool.not_false]) | (simp only [c8b0, Bool.not_true, Bool.not_false]) | skip)
   have H' := Aside0.mk H
   clear H
   go_wp2
   go_meet
   case rel => exact ⟨_, (false), (by first | rfl | (simp; done) | (simp [*]; done)), H', ⟨by first | omega | exact Nat.le_refl _⟩, ⟨rz HO104.out⟩, ⟨by (with_reducible repeat (first | refine aK_ ?_ _ | refine ay_ ?_ | refine aI_ ?_ _)); exact BK101.out⟩, ⟨bq⟩⟩
  rw [if_pos c8] at H
  have c8b0 : (t105 == 0) = true := beq_iff_eq.mpr c8
  have c8b1 : (t105 != 0) = false := bne_eq_false_iff_eq.mpr c8
  clear c8
  (first | rw [c8b0] | (simp only [i64_w, i32_w]; rw [c8b0]) | (simp only [c8b1, Bool.not_true, Bool.not_false]) | (simp only [c8b0, Bool.not_true, Bool.not_false]) | skip)
  have H' := Aside0.mk H
  clear H
  go_wp2
  go_meet
  case rel => exact ⟨_, (((l0.length : Int) == 0)), (by first | rfl | (simp; done) | (simp [*]; done)), H', ⟨by first | omega | exact Nat.le_refl _⟩, ⟨rz HO104.out⟩, ⟨by (with_reducible repeat (first | refine aK_ ?_ _ | refine ay_ ?_ | refine aI_ ?_ _)); exact BK101.out⟩, ⟨bq⟩⟩
 case rest =>
  clear HC4
  obtain ⟨kq, x21_3, rfl, HA, HJ3, HO_7, BK101, HB⟩ := hcut
  cases kq with
  | zero => exact absurd HA.out (by simp [aC_.j0])
  | succ kj3 =>
   have H := HA.out
   clear HA
   simp only [aC_.j0] at H
   by_cases c9 : x21_3 = true
   rotate_left
   ·replace c9 := Bool.eq_false_iff.mpr c9
    subst c9
    have H1 : (if t105 = 0 then (if 0 < (t102.length : Int) then (if 0 ≤ (rd t102 0) then (if (rd t102 0) < (l0.length : Int) then ((aj_.f kj3 ((af_ l0 (rd t102 0)).f0) ((af_ l0 (rd t102 0)).f1) a1_0 l1_1).bind fun t109 => (some (rd t102 0, t109, 0))) else (none)) else (none)) else (none)) else (some (0, 0, t105))) = some (r1, r2, r3) := by rw [if_neg (show ¬ (false = true) by decide)] at H; exact H
    clear H
    have H := H1
    clear H1
    by_cases c10 : t105 = 0
    rotate_left
    ·rw [if_neg c10] at H
     have c10b0 : (t105 == 0) = false := beq_eq_false_iff_ne.mpr c10
     have c10b1 : (t105 != 0) = true := bne_iff_ne.mpr c10
     simp only [Option.some.injEq, Prod.mk.injEq] at H
     obtain ⟨rfl, rfl, rfl⟩ := H
     go_wp2
     go_ret3
     exact ⟨by first | rfl | (simp [*, aH_, aG_] <;> rfl), bq⟩
    rw [if_pos c10] at H
    have c10b0 : (t105 == 0) = true := beq_iff_eq.mpr c10
    have c10b1 : (t105 != 0) = false := bne_eq_false_iff_eq.mpr c10
    clear c10
    by_cases c11 : 0 < (t102.length : Int)
    rotate_left
    ·rw [if_neg c11] at H
     exact absurd H (by simp)
    rw [if_pos c11] at H
    have c11b0 : decide (0 < (t102.length : Int)) = true := decide_eq_true c11
    have c11b1 : decide (0 < t102.length) = true := decide_eq_true (by omega)
    clear c11
    by_cases c12 : 0 ≤ (rd t102 0)
    rotate_left
    ·rw [if_neg c12] at H
     exact absurd H (by simp)
    rw [if_pos c12] at H
    have c12b0 : decide (0 ≤ (rd t102 0)) = true := decide_eq_true c12
    clear c12
    by_cases c13 : (rd t102 0) < (l0.length : Int)
    rotate_left
    ·rw [if_neg c13] at H
     exact absurd H (by simp)
    rw [if_pos c13] at H
    have c13b0 : decide ((rd t102 0) < (l0.length : Int)) = true := decide_eq_true c13
    clear c13
    replace H := Option.bind_eq_some_iff.mp H
    obtain ⟨t109, A140, H⟩ := H
    (try dsimp only at H)
    have A14 := Aside0.mk A140
    clear A140
    simp only [Option.some.injEq, Prod.mk.injEq] at H
    obtain ⟨rfl, rfl, rfl⟩ := H
    try go_wp2
    have n0_ := Aside0.mk (Kd.cu_ HO_7.out)
    have n1_ := Aside0.mk (ay_ BK101.out)
    have n2_ := Aside0.mk (bD_ HB.out)
    clear HO_7
    clear BK101
    clear HB
    have HO_7 := n0_
    have BK101 := n1_
    have HB := n2_
    clear n0_ n1_ n2_
    obtain ⟨Ao16, co16, eo16⟩ := Kd.bP_ HO_7.out
    (first | subst eo16 | (injection eo16 with f1_ f2_ f3_; have f4_ := f1_.symm; have f5_ := f3_.symm; clear f1_ f2_ f3_; subst f4_; subst f5_))
    have p106 : 0 ≤ (0 : Int) := (by omega)
    have q106 : 0 < (t102.length : Int) := of_decide_eq_true (by assumption)
    obtain ⟨ad106, e106, hx106_0⟩ := Kd.bL_ (Kd.aD_ HO_7.out).2.2 0 p106 q106
    cases e106
    have qi106 : (0 < t102.length) = True := eq_true (by omega)
    (try rw [show ((0 : Int)).toNat = 0 from rfl] at hx106_0)
    (try rw [Addr.add_zero'] at hx106_0)
    replace p106 := eq_true p106
    replace q106 := eq_true q106
    have p107 : 0 ≤ (0 : Int) := (by omega)
    have q107 : 0 < (t102.length : Int) := of_decide_eq_true (by assumption)
    obtain ⟨ad107, e107, hx107_0⟩ := Kd.bL_ (Kd.aD_ HO_7.out).2.2 0 p107 q107
    obtain rfl : ad106 = ad107 := (by injection e107)
    have qi107 : (0 < t102.length) = True := eq_true (by omega)
    (try rw [show ((0 : Int)).toNat = 0 from rfl] at hx107_0)
    (try rw [Addr.add_zero'] at hx107_0)
    replace p107 := eq_true p107
    replace q107 := eq_true q107
    have p108 : 0 ≤ ((rd t102 0) : Int) := of_decide_eq_true (by assumption)
    have q108 : (rd t102 0) < (l0.length : Int) := of_decide_eq_true (by assumption)
    obtain ⟨ad108, A108_1, c108_1, e108, hx108_0, hx108_1, hl108_1, hi108_1⟩ := bY_ HR0.out (rd t102 0) p108 q108
    have hw108_1 := hx108_1
    have hw108_0 := hx108_0
    cases e108
    replace hx108_0 := bu_ HB.out hx108_0
    replace hx108_1 := bu_ HB.out hx108_1
    have HR108_1 := Aside0.mk hi108_1
    have HC108_1 := Aside0.mk hl108_1
    clear hi108_1 hl108_1
    replace p108 := eq_true p108
    replace q108 := eq_true q108
    refine cv_ (n := 14) (S := fun w' => w'.cell? ⟨gb101, 0, none⟩ = some (.string a1_0) ∧ w'.cell? ⟨gb101, 1, none⟩ = some (.slice A1_1 l1_1.length c1_1) ∧ w'.cell? ad106 = some (.int .i64 (rd t102 0)) ∧ w'.cell? ad106 = some (.int .i64 (rd t102 0)) ∧ w'.cell? (ad108.add (((rd t102 0)).toNat * 2)) = some (.string ((af_ l0 (rd t102 0)).f0)) ∧ w'.cell? ⟨(ad108.add (((rd t102 0)).toNat * 2)).block, (ad108.add (((rd t102 0)).toNat * 2)).off + 1, none⟩ = some (.slice A108_1 ((af_ l0 (rd t102 0)).f1).length c108_1)) (ds := []) #[f_,f_,f_,f_,f_,f_,f_,f_,f_,f_,f_,f_,f_,f_] (by kernel_rfl) rfl rfl ⟨(aM_ BK101.out 0).trans rfl, (aM_ BK101.out 1).trans rfl, hx106_0, hx107_0, (bv_ HB.out hw108_0), (bv_ HB.out hw108_1)⟩ (fun hHeld => ?_); refine bT_ aC_.tab6 aC_.bits6 (fun HT_ HW_ => ?_)
    generalize wc.drew = w15 at HO_7 BK101 HB HR108_1 hx106_0 hx107_0 hx108_0 hx108_1 hHeld ⊢
    refine pu 0 25 #[t_,f_,f_,f_,f_,f_,f_,f_,f_,f_,f_,f_,f_,f_] HT_ ?_
    refine pu 1 26 #[t_,t_,f_,f_,f_,f_,f_,f_,f_,f_,f_,f_,f_,f_] HT_ ?_
    refine pu 3 28 #[t_,t_,f_,t_,f_,f_,f_,f_,f_,f_,f_,f_,f_,f_] HT_ ?_
    refine pu 4 29 #[t_,t_,f_,t_,t_,f_,f_,f_,f_,f_,f_,f_,f_,f_] HT_ ?_
    refine pu 5 30 #[t_,t_,f_,t_,t_,t_,f_,f_,f_,f_,f_,f_,f_,f_] HT_ ?_
    refine tk 2 27 #[t_,t_,t_,t_,t_,t_,f_,f_,f_,f_,f_,f_,f_,f_] HT_ HW_ hHeld ?_ (hv := by rintro w' ⟨s0, s1, s2, s3, s4, s5⟩; go_simp; with_reducible rfl)
    refine tk 6 31 #[t_,t_,t_,t_,t_,t_,t_,f_,f_,f_,f_,f_,f_,f_] HT_ HW_ hHeld ?_ (hv := by rintro w' ⟨s0, s1, s2, s3, s4, s5⟩; go_simp; with_reducible rfl)
    refine pu 7 32 #[t_,t_,t_,t_,t_,t_,t_,t_,f_,f_,f_,f_,f_,f_] HT_ ?_
    refine tk 8 33 #[t_,t_,t_,t_,t_,t_,t_,t_,t_,f_,f_,f_,f_,f_] HT_ HW_ hHeld ?_ (hv := by rintro w' ⟨s0, s1, s2, s3, s4, s5⟩; go_simp; with_reducible rfl)
    refine tk 9 34 #[t_,t_,t_,t_,t_,t_,t_,t_,t_,t_,f_,f_,f_,f_] HT_ HW_ hHeld ?_ (hv := by rintro w' ⟨s0, s1, s2, s3, s4, s5⟩; go_simp; with_reducible rfl)
    refine one_ (i := 10) (N := some 35) #[t_,t_,t_,t_,t_,t_,t_,t_,t_,t_,t_,f_,f_,f_] rfl rfl (cs_ HT_.out (by kernel_rfl)) (by decide) (fun K hK => ?_)
    (first | refine goes_ Try.func53 (by kernel_rfl) rfl #[.agg #[.string ((af_ l0 (rd t102 0)).f0), .slice A108_1 ((af_ l0 (rd t102 0)).f1).length c108_1], .agg #[.string a1_0, .slice A1_1 l1_1.length c1_1]] (by rfl) rfl rfl (by first | rfl | (simp only [lma_, lmc_, lmn_]; first | done | rfl)) ?_ | refine RPW.cC_ Try.func53 (by kernel_rfl) rfl #[.agg #[.string ((af_ l0 (rd t102 0)).f0), .slice A108_1 ((af_ l0 (rd t102 0)).f1).length c108_1], .agg #[.string a1_0, .slice A1_1 l1_1.length c1_1]] (by rfl) rfl rfl rfl (by first | rfl | (simp only [lma_, lmc_, lmn_]; first | done | rfl)) ?_ | refine RPW.cB_ Try.func53 (by kernel_rfl) rfl #[.agg #[.string ((af_ l0 (rd t102 0)).f0), .slice A108_1 ((af_ l0 (rd t102 0)).f1).length c108_1], .agg #[.string a1_0, .slice A1_1 l1_1.length c1_1]] (by rfl) rfl rfl rfl (by first | rfl | (simp only [lma_, lmc_, lmn_]; first | done | rfl)) ?_)
    with_reducible refine (aj_.calls kj3 ((af_ l0 (rd t102 0)).f0) _ _ ((af_ l0 (rd t102 0)).f1) a1_0 _ _ l1_1 t109 _ ?side1 ?side2 ?side3 ?side4 A14.out).mono ?_
    (case side1 => exact cz (Kd.bi_ HR108_1.out HB.out))
    (case side2 => exact HC108_1.out)
    (case side3 => exact cz (Kd.bi_ HR1_1.out HB.out))
    (case side4 => exact HC1_1.out)
    rintro e w17 ⟨rfl, hb⟩
    have HS2_ := (hb.cell (bl_ _ _ (hHeld.2.2.1))).trans (hHeld.2.2.1)
    have HS3_ := (hb.cell (bl_ _ _ (hHeld.2.2.2.1))).trans (hHeld.2.2.2.1)
    refine ⟨_, rfl, ?_⟩
    have n0_ := Aside0.mk (Kd.cc_ (rz HO_7.out) hb)
    have n1_ := Aside0.mk (ag_ (kz BK101.out) hb)
    have n2_ := Aside0.mk (am_ (bq) hb)
    clear HO_7
    clear BK101
    clear HB
    have HO_7 := n0_
    have BK101 := n1_
    have HB := n2_
    clear n0_ n1_ n2_
    (try clear hb)
    refine hK.out _ _ ⟨(aM_ BK101.out 0).trans rfl, (aM_ BK101.out 1).trans rfl, HS2_, HS3_, (bv_ HB.out hw108_0), (bv_ HB.out hw108_1)⟩ (fun hHeld => ?_)
    clear hK K
    refine norm_ (a' := ?_) ?_ ?_
    rotate_left
    ·show Act.put _ (some 35) _ = _
     simp only [Act.put, lsa_, ls0_, ls1_, i64_w, i32_w]
     rfl
    refine pu 11 4 #[t_,t_,t_,t_,t_,t_,t_,t_,t_,t_,t_,t_,f_,f_] HT_ ?_
    refine pu 12 5 #[t_,t_,t_,t_,t_,t_,t_,t_,t_,t_,t_,t_,t_,f_] HT_ ?_
    refine pu 13 6 #[t_,t_,t_,t_,t_,t_,t_,t_,t_,t_,t_,t_,t_,t_] HT_ ?_
    refine done_ (cl_ HT_.out (by kernel_rfl)) ?_
    try go_wp2
    go_ret3
    exact ⟨by first | rfl | (simp [*, aH_, aG_] <;> rfl), bq⟩
   subst c9
   have H1 : (some (0, 0, 3)) = some (r1, r2, r3) := by rw [if_pos rfl] at H; exact H
   clear H
   have H := H1
   clear H1
   simp only [Option.some.injEq, Prod.mk.injEq] at H
   obtain ⟨rfl, rfl, rfl⟩ := H
   go_wp2
   go_ret3
   exact ⟨by first | rfl | (simp [*, aH_, aG_] <;> rfl), bq⟩
def bF_.l0 : Nat → List Int → Int → Int → Option (Bool)
 | 0, _, _, _ => none
 | k + 1, x0, x1, x5 => if x5 < (x0.length : Int) then (if 0 ≤ x5 then (if (rd x0 x5) = x1 then (some true) else (bF_.l0 k x0 x1 (wrap64 (x5 + 1)))) else (none)) else (some false)
def bF_.f (k : Nat) (l0 : List Int) (a1 : Int) : Option (Bool) := bF_.l0 k l0 a1 0
set_option maxHeartbeats 8000000 in
set_option maxRecDepth 100000 in
theorem bF_.calls (k : Nat) (A0 : Option Addr) (c0 : Nat) (l0 : List Int) (a1 : Int) (r : Bool) (w : World) (hr0 : Kd.C (Kd.int .i64) w A0 l0.length l0) (hc0 : l0.length ≤ c0) (h : bF_.f k l0 a1 = some r) :
  Calls Try.prog 42 #[.slice A0 l0.length c0, .int .i64 a1] w fun e w' => e = .returned (.bool r) ∧ ax_ w w' := by
 have HR0 := Aside0.mk hr0
 have HC0 := Aside0.mk hc0
 clear hr0 hc0
 have H : (bF_.l0 k l0 a1 0) = some r := h
 clear h
 have H' := Aside0.mk H
 clear H
 go_enter Try.func42, Try.ntmps42
 go_wp2
 (try simp only [Act.put, lsa_, ls0_, ls1_])
 go_loopg [5] k (fun kq v5 w' => ∃ (x5_1 : Int), v5 = .int .i64 x5_1 ∧ Aside0 (bF_.l0 kq l0 a1 x5_1 = some r) ∧ Aside0 (kq ≤ k) ∧ ax_ w w')
 case atStart => exact ⟨(0), (by first | rfl | (simp; done) | (simp [*]; done)), H', ⟨Nat.le_refl _⟩, by repeat (first | exact ax_.refl _ | apply ax_.step)⟩
 case round =>
  clear H'
  obtain ⟨x5_1, rfl, HA, HK1, ⟨m1, rfl⟩⟩ := hrel
  cases gk with
  | zero => exact absurd HA.out (by simp [bF_.l0])
  | succ k1 =>
   have H := HA.out
   clear HA
   simp only [bF_.l0] at H
   by_cases c3 : x5_1 < (l0.length : Int)
   rotate_left
   ·rw [if_neg c3] at H
    have c3b0 : decide (x5_1 < (l0.length : Int)) = false := decide_eq_false c3
    clear c3
    obtain rfl := Option.some.inj H
    go_wp2
    go_ret
    exact ⟨by first | rfl | (simp; done) | (simp [*]; done), by repeat (first | exact ax_.refl _ | apply ax_.step)⟩
   rw [if_pos c3] at H
   have c3b0 : decide (x5_1 < (l0.length : Int)) = true := decide_eq_true c3
   clear c3
   by_cases c4 : 0 ≤ x5_1
   rotate_left
   ·rw [if_neg c4] at H
    exact absurd H (by simp)
   rw [if_pos c4] at H
   have c4b0 : decide (0 ≤ x5_1) = true := decide_eq_true c4
   clear c4
   by_cases c5 : (rd l0 x5_1) = a1
   rotate_left
   ·rw [if_neg c5] at H
    have c5b0 : ((rd l0 x5_1) == a1) = false := beq_eq_false_iff_ne.mpr c5
    have c5b1 : ((rd l0 x5_1) != a1) = true := bne_iff_ne.mpr c5
    have H' := Aside0.mk H
    clear H
    have p101 : 0 ≤ (x5_1 : Int) := of_decide_eq_true (by assumption)
    have q101 : x5_1 < (l0.length : Int) := of_decide_eq_true (by assumption)
    obtain ⟨ad101, e101, hx101_0⟩ := Kd.bL_ HR0.out x5_1 p101 q101
    cases e101
    replace p101 := eq_true p101
    replace q101 := eq_true q101
    go_wp2
    go_roundg k1
    case measure => have := HK1.out; omega
    case rel => exact ⟨(wrap64 (x5_1 + 1)), (by first | rfl | (simp; done) | (simp [*]; done)), H', ⟨by have := HK1.out; omega⟩, by repeat (first | exact ax_.refl _ | apply ax_.step)⟩
   rw [if_pos c5] at H
   have c5b0 : ((rd l0 x5_1) == a1) = true := beq_iff_eq.mpr c5
   have c5b1 : ((rd l0 x5_1) != a1) = false := bne_eq_false_iff_eq.mpr c5
   clear c5
   obtain rfl := Option.some.inj H
   have p101 : 0 ≤ (x5_1 : Int) := of_decide_eq_true (by assumption)
   have q101 : x5_1 < (l0.length : Int) := of_decide_eq_true (by assumption)
   obtain ⟨ad101, e101, hx101_0⟩ := Kd.bL_ HR0.out x5_1 p101 q101
   cases e101
   replace p101 := eq_true p101
   replace q101 := eq_true q101
   go_wp2
   go_ret
   exact ⟨by first | rfl | (simp; done) | (simp [*]; done), by repeat (first | exact ax_.refl _ | apply ax_.step)⟩
end Go.Proofs.Yteafahnopgmgoaa.Q
