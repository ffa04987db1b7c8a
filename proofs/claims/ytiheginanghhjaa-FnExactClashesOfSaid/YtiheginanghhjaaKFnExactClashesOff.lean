/- For all arguments that the law's sizes let in, the program's ClashesOf gives what the reference gives. This text holds the last walks, the plain law and the row. -/
import Derived.Lib.SlicesCompact
import Derived.Lib.Bytealg
import Derived.Test.YtiheginanghhjaaRows
import Derived.WalkKit
import Derived.ProofKit
import Derived.OpenShut
import Derived.ShutString
import Derived.ChangeOld
import Derived.Below
import Derived.SizedLaws
import Derived.Carry
import Derived.Test.YtiheginanghhjaaKFnExactClashesOfa
import Derived.Test.YtiheginanghhjaaKFnExactClashesOfb
import Derived.Test.YtiheginanghhjaaKFnExactClashesOfc
import Derived.Test.YtiheginanghhjaaKFnExactClashesOfd
import Derived.Test.YtiheginanghhjaaKFnExactClashesOfe
set_option linter.unusedVariables false
set_option linter.unusedSimpArgs false
namespace Go.Proofs.Ytiheginanghhjaa.Q
open Go.RowKit Go.Proofs.YtiheginanghhjaaW.PrintWords Go.Proofs.YtiheginanghhjaaW.PrintLast Go.Proofs.YtiheginanghhjaaW.PrintMore
attribute [local go_sem] max2_int min2_int max_two min_two max_three min_three max_four min_four
set_option linter.unusedVariables false
set_option linter.unusedSimpArgs false
attribute [local go_sem high] eqA63
def spec_l27Merge.l0 : Nat → List (S63) → List (S63) → List (S63) → List ByteArray → List (S63) → Int → Option ((List (S63)) × Int)
 | 0, _, _, _, _, _, _ => none
 | k + 1, x0, x1, x2, x8, x9, x10 => if x10 < (x8.length : Int) then (if 0 ≤ x10 then ((spec_l27Get.f k x1 (rdOf ByteArray.empty x8 x10)).bind fun bt111 => ((spec_l27Get.f k x0 (rdOf ByteArray.empty x8 x10)).bind fun bt117 => (if (bt111.1.toList == bt117.1.toList && ((bt111.2.1.toList == bt117.2.1.toList && (bt111.2.2.1 == bt117.2.2.1 && (bt111.2.2.2 == bt117.2.2.2))))) = true then ((spec_l27Get.f k x2 (rdOf ByteArray.empty x8 x10)).bind fun bt122 => (if bt122.1.toList = ([] : List UInt8) then (spec_l27Merge.l0 k x0 x1 x2 x8 x9 (wrap64 (x10 + 1))) else (if x9.length < 2932031007402 then (spec_l27Merge.l0 k x0 x1 x2 x8 (x9 ++ [(⟨bt122.1, (⟨bt122.2.1, bt122.2.2.1, bt122.2.2.2⟩ : S61)⟩ : S63)]) (wrap64 (x10 + 1))) else (none)))) else (if bt111.1.toList = ([] : List UInt8) then (spec_l27Merge.l0 k x0 x1 x2 x8 x9 (wrap64 (x10 + 1))) else (if x9.length < 2932031007402 then (spec_l27Merge.l0 k x0 x1 x2 x8 (x9 ++ [(⟨bt111.1, (⟨bt111.2.1, bt111.2.2.1, bt111.2.2.2⟩ : S61)⟩ : S63)]) (wrap64 (x10 + 1))) else (none)))))) else (none)) else (if (x9.length : Int) > 24 then (some (([] : List (S63)), 5)) else (some (x9, 0)))
def spec_l27Merge.f (k : Nat) (l0 : List (S63)) (l1 : List (S63)) (l2 : List (S63)) : Option ((List (S63)) × Int) := (spec_l27Clashes.f k l0 l1 l2).bind fun t101 => (if (t101.length : Int) > 0 then (some (([] : List (S63)), 6)) else ((spec_l27Faces.f k l0 l1 l2).bind fun t104 => (spec_l27Merge.l0 k l0 l1 l2 t104 (([] : List (S63))) 0)))
def spec_l27Merge.T9 : Bool × List (List Nat × List Nat) := (true, [([], []), ([], []), ([], []), ([], []), ([2, 3], [2, 3]), ([4], [4]), ([1, 5], [1, 5]), ([0, 6], [0, 6])])
def spec_l27Merge.B9 : List Nat := [0, 0, 0, 0, 12, 28, 62, 127]
theorem spec_l27Merge.tab9 : rtab .any (opsOf Try.f44 9) = spec_l27Merge.T9 := by kernel_rfl
theorem spec_l27Merge.bits9 : waitsOk spec_l27Merge.T9.2 spec_l27Merge.B9 = true := by kernel_rfl
set_option maxHeartbeats 8000000 in
set_option maxRecDepth 100000 in
theorem spec_l27Merge.calls (k : Nat) (A0 : Option Addr) (c0 : Nat) (l0 : List (S63)) (A1 : Option Addr) (c1 : Nat) (l1 : List (S63)) (A2 : Option Addr) (c2 : Nat) (l2 : List (S63)) (r1 : List (S63)) (r2 : Int) (w : World) (hr0 : Kd.C k63 w A0 l0.length l0) (hc0 : l0.length ≤ c0) (hr1 : Kd.C k63 w A1 l1.length l1) (hc1 : l1.length ≤ c1) (hr2 : Kd.C k63 w A2 l2.length l2) (hc2 : l2.length ≤ c2) (h : spec_l27Merge.f k l0 l1 l2 = some (r1, r2)) :
  Calls Try.prog 44 #[.slice A0 l0.length c0, .slice A1 l1.length c1, .slice A2 l2.length c2] w fun e w' => ∃ v0_ : Value, e = .returned (.tuple #[v0_, .int .i64 r2]) ∧ Kd.R k63 63 w' w.heap.size (fun _ => True) v0_ r1 ∧ Below w.heap.size w w' := by
 have hu63 := Try.underlying63
 have HR0 := Aside0.mk hr0
 have HC0 := Aside0.mk hc0
 clear hr0 hc0
 have HR1 := Aside0.mk hr1
 have HC1 := Aside0.mk hc1
 clear hr1 hc1
 have HR2 := Aside0.mk hr2
 have HC2 := Aside0.mk hc2
 clear hr2 hc2
 have HB := Aside0.mk (Below.refl w.heap.size w)
 have H : ((spec_l27Clashes.f k l0 l1 l2).bind fun t101 => (if (t101.length : Int) > 0 then (some (([] : List (S63)), 6)) else ((spec_l27Faces.f k l0 l1 l2).bind fun t104 => (spec_l27Merge.l0 k l0 l1 l2 t104 (([] : List (S63))) 0)))) = some (r1, r2) := h
 clear h
 replace H := Option.bind_eq_some_iff.mp H
 obtain ⟨t101, A40, H⟩ := H
 (try dsimp only at H)
 have A4 := Aside0.mk A40
 clear A40
 have HC5 := Aside0.mk H
 clear H
 go_enter Try.func44, Try.ntmps44
 go_upto_if 17 with (first | ((with_reducible refine gate_callee (f := 37) rfl ?_); refine goesL_ (some 15) rfl rfl Try.func37 (by kernel_rfl) rfl #[.slice A0 l0.length c0, .slice A1 l1.length c1, .slice A2 l2.length c2] rfl (by first | rfl | (simp only [List.map_toArray, List.map_cons, List.map_nil]; first | done | rfl)) ?_; (with_reducible refine (spec_l27Clashes.calls k _ _ l0 _ _ l1 _ _ l2 t101 _ ?side1 ?side2 ?side3 ?side4 ?side5 ?side6 A4.out).mono ?_); (case side1 => repeat (first | exact HR0.out | (with_reducible first | refine Kd.C_alloc ?_ _ | refine Kd.C_drewN ?_ _ | refine Kd.C_drew ?_))); (case side2 => exact HC0.out); (case side3 => repeat (first | exact HR1.out | (with_reducible first | refine Kd.C_alloc ?_ _ | refine Kd.C_drewN ?_ _ | refine Kd.C_drew ?_))); (case side4 => exact HC1.out); (case side5 => repeat (first | exact HR2.out | (with_reducible first | refine Kd.C_alloc ?_ _ | refine Kd.C_drewN ?_ _ | refine Kd.C_drew ?_))); (case side6 => exact HC2.out); rintro e w6 ⟨v102, rfl, ho0, hb⟩; refine ⟨_, rfl, ?_⟩; have n0_ := Aside0.mk (Kd.R_lower ho0 (below_size (by repeat (first | (with_reducible first | exact HB.out | apply bA_ | apply bN_ | apply bD_))))); have n1_ := Aside0.mk (below_step (by repeat (first | (with_reducible first | exact HB.out | apply bA_ | apply bN_ | apply bD_))) hb); clear HB; have HO103 := n0_; have HB := n1_; clear n0_ n1_; (try clear hb); (try clear ho0); obtain ⟨Ao7, co7, eo7⟩ := Kd.R_slice HO103.out; subst eo7))
 (try simp only [Act.put, List.setIfInBounds_toArray, List.set_cons_zero, List.set_cons_succ])
 have H := HC5.out
 clear HC5
 by_cases c8 : (t101.length : Int) > 0
 rotate_left
 ·rw [if_neg c8] at H
  have c8b0 : decide (0 < (t101.length : Int)) = false := decide_eq_false c8
  have c8b1 : decide (0 < t101.length) = false := decide_eq_false (by omega)
  clear c8
  (first | rw [c8b0] | (simp only [i64_w, i32_w]; rw [c8b0]) | (simp only [c8b1, Bool.not_true, Bool.not_false]) | (simp only [c8b0, Bool.not_true, Bool.not_false]) | skip)
  replace H := Option.bind_eq_some_iff.mp H
  obtain ⟨t104, A90, H⟩ := H
  (try dsimp only at H)
  have A9 := Aside0.mk A90
  clear A90
  obtain ⟨y107, hy107⟩ : ∃ y_ : List (S63), y_ = (([] : List (S63))) := ⟨_, rfl⟩
  replace H : (spec_l27Merge.l0 k l0 l1 l2 t104 y107 0) = some (r1, r2) := by first | (rw [hy107]; with_reducible exact H) | (have H2_ := (Option.bind_some _ _).symm.trans H; rw [hy107]; with_reducible exact H2_) | (have H2_ := (Option.bind_some _ _).symm.trans H; with_reducible exact H2_) | with_reducible exact H | (rw [hy107]; exact H) | exact H
  have Ny107 := Aside0.mk hy107
  clear hy107
  have H' := Aside0.mk H
  clear H
  go_wp2_with (first | ((with_reducible refine gate_callee (f := 66) rfl ?_); refine goesL_ (some 21) rfl rfl Try.func66 (by kernel_rfl) rfl #[.slice A0 l0.length c0, .slice A1 l1.length c1, .slice A2 l2.length c2] rfl (by first | rfl | (simp only [List.map_toArray, List.map_cons, List.map_nil]; first | done | rfl)) ?_; (with_reducible refine (spec_l27Faces.calls k _ _ l0 _ _ l1 _ _ l2 t104 _ ?side1 ?side2 ?side3 ?side4 ?side5 ?side6 A9.out).mono ?_); (case side1 => repeat (first | exact (Kd.C_below HR0.out (by repeat (first | (with_reducible first | exact HB.out | apply bA_ | apply bN_ | apply bD_)))) | (with_reducible first | refine Kd.C_alloc ?_ _ | refine Kd.C_drewN ?_ _ | refine Kd.C_drew ?_))); (case side2 => exact HC0.out); (case side3 => repeat (first | exact (Kd.C_below HR1.out (by repeat (first | (with_reducible first | exact HB.out | apply bA_ | apply bN_ | apply bD_)))) | (with_reducible first | refine Kd.C_alloc ?_ _ | refine Kd.C_drewN ?_ _ | refine Kd.C_drew ?_))); (case side4 => exact HC1.out); (case side5 => repeat (first | exact (Kd.C_below HR2.out (by repeat (first | (with_reducible first | exact HB.out | apply bA_ | apply bN_ | apply bD_)))) | (with_reducible first | refine Kd.C_alloc ?_ _ | refine Kd.C_drewN ?_ _ | refine Kd.C_drew ?_))); (case side6 => exact HC2.out); rintro e w10 ⟨v105, rfl, ho0, hb⟩; refine ⟨_, rfl, ?_⟩; have n0_ := Aside0.mk (Kd.R_elder' (by (with_reducible repeat (first | apply Kd.R_alloc | apply Kd.R_drewN | apply Kd.R_drew)); exact HO103.out) (Kd.R_base ho0) hb); have n1_ := Aside0.mk (Kd.R_lower (Kd.R_new' ho0 (Kd.R_lt (by (with_reducible repeat (first | apply Kd.R_alloc | apply Kd.R_drewN | apply Kd.R_drew)); exact HO103.out))) (below_size (by repeat (first | (with_reducible first | exact HB.out | apply bA_ | apply bN_ | apply bD_))))); have n2_ := Aside0.mk (below_step (by repeat (first | (with_reducible first | exact HB.out | apply bA_ | apply bN_ | apply bD_))) hb); clear HO103; clear HB; have HO103 := n0_; have HO106 := n1_; have HB := n2_; clear n0_ n1_ n2_; (try clear hb); (try clear ho0)) | ((with_reducible refine gate_dst (N := 22) rfl ?_); refine Kd.R_lit k63 _ 63 ?hg (N := 22) ?hd (xs := ([] : List (S63))) (inner := []) (ok := fun _ => True) (okp := fun _ => True) ?hr ?hp (fun _ hk => hk) trivial (Below.refl _ _) (Nat.le_refl _) (by simp) ?_; (case hd => rfl); (case hg => rfl); (case hr => (go_simp; try rfl)); (case hp => exact (Reps.none _ _)); intro v108 w11 ho12 hb hg_ hnew_; clear hg_ hnew_; (first | rw [← Ny107.out] at ho12 | (simp only [Int.reduceToNat] at ho12; rw [← Ny107.out] at ho12)); have n0_ := Aside0.mk (Kd.R_below (by (with_reducible repeat (first | apply Kd.R_alloc | apply Kd.R_drewN | apply Kd.R_drew)); exact HO103.out) hb); have n1_ := Aside0.mk (Kd.R_below (by (with_reducible repeat (first | apply Kd.R_alloc | apply Kd.R_drewN | apply Kd.R_drew)); exact HO106.out) hb); have n2_ := Aside0.mk (Kd.R_lower ho12 (below_size (by repeat (first | (with_reducible first | exact HB.out | apply bA_ | apply bN_ | apply bD_))))); have n3_ := Aside0.mk (below_step (by repeat (first | (with_reducible first | exact HB.out | apply bA_ | apply bN_ | apply bD_))) hb); clear HO103; clear HO106; clear HB; have HO103 := n0_; have HO106 := n1_; have HO109 := n2_; have HB := n3_; clear n0_ n1_ n2_ n3_; clear hb ho12))
  (try simp only [Act.put, List.setIfInBounds_toArray, List.set_cons_zero, List.set_cons_succ])
  go_loopg [9, 10] k (fun kq v9 v10 w' => ∃ (x9_1 : List (S63)) (x10_1 : Int), v10 = .int .i64 x10_1 ∧ Aside0 (spec_l27Merge.l0 kq l0 l1 l2 t104 x9_1 x10_1 = some (r1, r2)) ∧ Aside0 (kq ≤ k) ∧ Aside0 (Kd.R Kd.string 9 w' w.heap.size (fun _ => True) v105 t104) ∧ Aside0 (Kd.R k63 63 w' w.heap.size (fun _ => True) v9 x9_1) ∧ Aside0 (Below w.heap.size w w'))
  case atStart => exact ⟨(y107), (0), (by first | rfl | (simp; done) | (simp [*]; done)), H', ⟨Nat.le_refl _⟩, ⟨by (with_reducible repeat (first | apply Kd.R_alloc | apply Kd.R_drewN | apply Kd.R_drew)); exact Kd.R_mono HO106.out (fun _ hk => trivial)⟩, ⟨by (with_reducible repeat (first | apply Kd.R_alloc | apply Kd.R_drewN | apply Kd.R_drew)); exact HO109.out⟩, ⟨by repeat (first | (with_reducible first | exact HB.out | apply bA_ | apply bN_ | apply bD_))⟩⟩
  case round =>
   clear H'
   obtain ⟨x9_1, x10_1, rfl, HA, HK1, HO_8, HO_9, HB⟩ := hrel
   cases gk with
   | zero => exact absurd HA.out (by simp [spec_l27Merge.l0])
   | succ k1 =>
    have H := HA.out
    clear HA
    simp only [spec_l27Merge.l0] at H
    by_cases c13 : x10_1 < (t104.length : Int)
    rotate_left
    ·rw [if_neg c13] at H
     have c13b0 : decide (x10_1 < (t104.length : Int)) = false := decide_eq_false c13
     clear c13
     by_cases c39 : (x9_1.length : Int) > 24
     rotate_left
     ·rw [if_neg c39] at H
      have c39b0 : decide (24 < (x9_1.length : Int)) = false := decide_eq_false c39
      have c39b1 : decide (24 < x9_1.length) = false := decide_eq_false (by omega)
      clear c39
      simp only [Option.some.injEq, Prod.mk.injEq] at H
      obtain ⟨rfl, rfl⟩ := H
      obtain ⟨Ao42, co42, eo42⟩ := Kd.R_slice HO_8.out
      subst eo42
      obtain ⟨Ao43, co43, eo43⟩ := Kd.R_slice HO_9.out
      subst eo43
      go_wp2
      go_ret2
      exact ⟨_, by first | rfl | (simp [*, errW_none, errW_some] <;> rfl), by (with_reducible repeat (first | apply Kd.R_alloc | apply Kd.R_drewN | apply Kd.R_drew)); exact HO_9.out, by repeat (first | (with_reducible first | exact HB.out | apply bA_ | apply bN_ | apply bD_))⟩
     rw [if_pos c39] at H
     have c39b0 : decide (24 < (x9_1.length : Int)) = true := decide_eq_true c39
     have c39b1 : decide (24 < x9_1.length) = true := decide_eq_true (by omega)
     clear c39
     simp only [Option.some.injEq, Prod.mk.injEq] at H
     obtain ⟨rfl, rfl⟩ := H
     obtain ⟨Ao40, co40, eo40⟩ := Kd.R_slice HO_8.out
     subst eo40
     obtain ⟨Ao41, co41, eo41⟩ := Kd.R_slice HO_9.out
     subst eo41
     go_wp2
     go_ret2
     exact ⟨_, by first | rfl | (simp [*, errW_none, errW_some] <;> rfl), by first | exact Kd.R_nil _ _ _ _ _ | exact Kd.N_nil _ _ _ _ _ | exact Kd.V_nil _ _ _ _ _ | exact Kd.Q_nil _ _ _ _ _ | exact Kd.S_nil _ _ _ _ _, by repeat (first | (with_reducible first | exact HB.out | apply bA_ | apply bN_ | apply bD_))⟩
    rw [if_pos c13] at H
    have c13b0 : decide (x10_1 < (t104.length : Int)) = true := decide_eq_true c13
    clear c13
    by_cases c14 : 0 ≤ x10_1
    rotate_left
    ·rw [if_neg c14] at H
     exact absurd H (by simp)
    rw [if_pos c14] at H
    have c14b0 : decide (0 ≤ x10_1) = true := decide_eq_true c14
    clear c14
    replace H := Option.bind_eq_some_iff.mp H
    obtain ⟨⟨t111, t112, t113, t114⟩, A150, H⟩ := H
    (try dsimp only at H)
    have A15 := Aside0.mk A150
    clear A150
    replace H := Option.bind_eq_some_iff.mp H
    obtain ⟨⟨t117, t118, t119, t120⟩, A160, H⟩ := H
    (try dsimp only at H)
    have A16 := Aside0.mk A160
    clear A160
    have HC17 := Aside0.mk H
    clear H
    obtain ⟨Ao18, co18, eo18⟩ := Kd.R_slice HO_8.out
    subst eo18
    have p110 : 0 ≤ (x10_1 : Int) := of_decide_eq_true (by assumption)
    have q110 : x10_1 < (t104.length : Int) := of_decide_eq_true (by assumption)
    obtain ⟨ad110, e110, hx110_0⟩ := Kd.at_string (Kd.R_reads' HO_8.out).2.2 x10_1 p110 q110
    cases e110
    replace p110 := eq_true p110
    replace q110 := eq_true q110
    try go_wp2_with (first | ((with_reducible refine gate_callee (f := 67) rfl ?_); refine goesL_ (some 34) rfl rfl Try.func67 (by kernel_rfl) rfl #[.slice A1 l1.length c1, .string (rdOf ByteArray.empty t104 x10_1)] rfl (by first | rfl | (simp only [List.map_toArray, List.map_cons, List.map_nil]; first | done | rfl)) ?_; (with_reducible refine (spec_l27Get.calls k1 _ _ l1 (rdOf ByteArray.empty t104 x10_1) t111 t112 t113 t114 _ ?side1 ?side2 A15.out).mono ?_); (case side1 => repeat (first | exact (Kd.C_below HR1.out (by repeat (first | (with_reducible first | exact HB.out | apply bA_ | apply bN_ | apply bD_)))) | (with_reducible first | refine Kd.C_alloc ?_ _ | refine Kd.C_drewN ?_ _ | refine Kd.C_drew ?_))); (case side2 => exact HC1.out); rintro e w19 ⟨rfl, hb⟩; refine ⟨_, rfl, ?_⟩; have n0_ := Aside0.mk (Kd.R_below (by (with_reducible repeat (first | apply Kd.R_alloc | apply Kd.R_drewN | apply Kd.R_drew)); exact HO_8.out) hb); have n1_ := Aside0.mk (Kd.R_below (by (with_reducible repeat (first | apply Kd.R_alloc | apply Kd.R_drewN | apply Kd.R_drew)); exact HO_9.out) hb); have n2_ := Aside0.mk (below_step (by repeat (first | (with_reducible first | exact HB.out | apply bA_ | apply bN_ | apply bD_))) hb); clear HO_8; clear HO_9; clear HB; have HO_8 := n0_; have HO_9 := n1_; have HB := n2_; clear n0_ n1_ n2_; (try clear hb)) | ((with_reducible refine gate_dst (N := 11) rfl ?_); refine box_event ?hg (N := 11) ?hd (cs := #[.string (⟨#[]⟩ : ByteArray), .string (⟨#[]⟩ : ByteArray), .int .i64 0, .int .i64 0]) (t := 63) ?hr ?_; (case hd => rfl); (case hg => rfl); (case hr => (go_simp; try rfl)); intro gb115 hg w20 hbox hb; have n0_ := Aside0.mk (Kd.R_below (by (with_reducible repeat (first | apply Kd.R_alloc | apply Kd.R_drewN | apply Kd.R_drew)); exact HO_8.out) hb); have n1_ := Aside0.mk (Kd.R_below (Kd.R_elderB (by (with_reducible repeat (first | apply Kd.R_alloc | apply Kd.R_drewN | apply Kd.R_drew)); exact HO_9.out) gb115 (Nat.le_of_eq hg.symm)) hb); have n2_ := Aside0.mk (below_step (by repeat (first | (with_reducible first | exact HB.out | apply bA_ | apply bN_ | apply bD_))) hb); have n3_ := Aside0.mk (hbox); have n4_ := Aside0.mk ((by rw [hg]; exact (below_size (by repeat (first | (with_reducible first | exact HB.out | apply bA_ | apply bN_ | apply bD_)))) : w.heap.size ≤ gb115)); have n5_ := Aside0.mk ((by rw [hg]; exact (below_size (by repeat (first | (with_reducible first | exact HB.out | apply bA_ | apply bN_ | apply bD_)))) : w.heap.size ≤ gb115)); clear HO_8; clear HO_9; clear HB; have HO_8 := n0_; have HO_9 := n1_; have HB := n2_; have BK115 := n3_; have GW115 := n4_; have GE115 := n5_; clear n0_ n1_ n2_ n3_ n4_ n5_; clear hb hbox hg; have hcz21_0 : w20.cell? ⟨gb115, 0, none⟩ = some (.string (⟨#[]⟩ : ByteArray)) := (blk_cell BK115.out 0).trans rfl; have hcz21_1 : w20.cell? ⟨gb115, 1, none⟩ = some (.string (⟨#[]⟩ : ByteArray)) := (blk_cell BK115.out 1).trans rfl; have hcz21_2 : w20.cell? ⟨gb115, 2, none⟩ = some (.int .i64 0) := (blk_cell BK115.out 2).trans rfl; have hcz21_3 : w20.cell? ⟨gb115, 3, none⟩ = some (.int .i64 0) := (blk_cell BK115.out 3).trans rfl; have hfz21_0 := blk_frozen BK115.out 0; have hfz21_1 := blk_frozen BK115.out 1; have hfz21_2 := blk_frozen BK115.out 2; have hfz21_3 := blk_frozen BK115.out 3))
    have n0_ : Aside0 (Kd.R Kd.string 9 ((((w20.setCell ⟨gb115, 0, none⟩ (.string t111)).setCell ⟨gb115, 1, none⟩ (.string t112)).setCell ⟨gb115, 2, none⟩ (.int .i64 t113)).setCell ⟨gb115, 3, none⟩ (.int .i64 t114)) w.heap.size (fun _ => True) (.slice (some ad110) t104.length co18) t104) := ⟨by (with_reducible repeat (first | apply Kd.R_alloc | apply Kd.R_drewN | apply Kd.R_drew)); exact Kd.R_mono (Kd.R_far (p := ⟨gb115, 3, none⟩) (Kd.R_far (p := ⟨gb115, 2, none⟩) (Kd.R_far (p := ⟨gb115, 1, none⟩) (Kd.R_far (p := ⟨gb115, 0, none⟩) (Kd.R_types HO_8.out BK115.out (by decide)) (fun _ hk => hk.2) (.string t111)) (fun _ hk => hk.2) (.string t112)) (fun _ hk => hk.2) (.int .i64 t113)) (fun _ hk => hk.2) (.int .i64 t114)) (fun _ hk => trivial)⟩
    have n1_ : Aside0 (Kd.R k63 63 ((((w20.setCell ⟨gb115, 0, none⟩ (.string t111)).setCell ⟨gb115, 1, none⟩ (.string t112)).setCell ⟨gb115, 2, none⟩ (.int .i64 t113)).setCell ⟨gb115, 3, none⟩ (.int .i64 t114)) w.heap.size (fun k_ => k_ ≠ gb115) u9 x9_1) := ⟨by (with_reducible repeat (first | apply Kd.R_alloc | apply Kd.R_drewN | apply Kd.R_drew)); exact Kd.R_mono (Kd.R_far (p := ⟨gb115, 3, none⟩) (Kd.R_far (p := ⟨gb115, 2, none⟩) (Kd.R_far (p := ⟨gb115, 1, none⟩) (Kd.R_far (p := ⟨gb115, 0, none⟩) (Kd.R_mono HO_9.out (fun k_ hk => (⟨hk, hk.2⟩ : _ ∧ k_ ≠ gb115))) (fun _ hk => hk.2) (.string t111)) (fun _ hk => hk.2) (.string t112)) (fun _ hk => hk.2) (.int .i64 t113)) (fun _ hk => hk.2) (.int .i64 t114)) (fun _ hk => hk.1.2)⟩
    have n2_ : Aside0 (((((w20.setCell ⟨gb115, 0, none⟩ (.string t111)).setCell ⟨gb115, 1, none⟩ (.string t112)).setCell ⟨gb115, 2, none⟩ (.int .i64 t113)).setCell ⟨gb115, 3, none⟩ (.int .i64 t114)).heap[gb115]? = some (.cells #[.string t111, .string t112, .int .i64 t113, .int .i64 t114] 63 (0, 0))) := ⟨by (with_reducible repeat (first | refine blk_drewN ?_ _ | refine blk_drew ?_ | refine blk_alloc ?_ _)); refine blk_put (cs := #[.string t111, .string t112, .int .i64 t113, .int .i64 0]) ?_ 3 _ rfl; (with_reducible repeat (first | refine blk_drewN ?_ _ | refine blk_drew ?_ | refine blk_alloc ?_ _)); refine blk_put (cs := #[.string t111, .string t112, .int .i64 0, .int .i64 0]) ?_ 2 _ rfl; (with_reducible repeat (first | refine blk_drewN ?_ _ | refine blk_drew ?_ | refine blk_alloc ?_ _)); refine blk_put (cs := #[.string t111, .string (⟨#[]⟩ : ByteArray), .int .i64 0, .int .i64 0]) ?_ 1 _ rfl; (with_reducible repeat (first | refine blk_drewN ?_ _ | refine blk_drew ?_ | refine blk_alloc ?_ _)); refine blk_put (cs := #[.string (⟨#[]⟩ : ByteArray), .string (⟨#[]⟩ : ByteArray), .int .i64 0, .int .i64 0]) ?_ 0 _ rfl; (with_reducible repeat (first | refine blk_drewN ?_ _ | refine blk_drew ?_ | refine blk_alloc ?_ _)); exact BK115.out⟩
    have n3_ : Aside0 (Below w.heap.size w ((((w20.setCell ⟨gb115, 0, none⟩ (.string t111)).setCell ⟨gb115, 1, none⟩ (.string t112)).setCell ⟨gb115, 2, none⟩ (.int .i64 t113)).setCell ⟨gb115, 3, none⟩ (.int .i64 t114))) := ⟨by repeat (first | (with_reducible first | exact HB.out | apply bA_ | apply bN_ | apply bD_ | refine below_set ?_ GE115.out) | exact HB.out)⟩
    (try clear HO_8)
    (try clear HO_9)
    (try clear BK115)
    (try clear HB)
    generalize ((((w20.setCell ⟨gb115, 0, none⟩ (.string t111)).setCell ⟨gb115, 1, none⟩ (.string t112)).setCell ⟨gb115, 2, none⟩ (.int .i64 t113)).setCell ⟨gb115, 3, none⟩ (.int .i64 t114)) = w22 at n0_ n1_ n2_ n3_ ⊢
    have HO_8 := n0_
    have HO_9 := n1_
    have BK115 := n2_
    have HB := n3_
    clear n0_ n1_ n2_ n3_
    have n0_ := Aside0.mk (Kd.R_drew HO_8.out)
    have n1_ := Aside0.mk (Kd.R_drew HO_9.out)
    have n2_ := Aside0.mk (blk_drew BK115.out)
    have n3_ := Aside0.mk (bD_ HB.out)
    clear HO_8
    clear HO_9
    clear BK115
    clear HB
    have HO_8 := n0_
    have HO_9 := n1_
    have BK115 := n2_
    have HB := n3_
    clear n0_ n1_ n2_ n3_
    have p116 : 0 ≤ (x10_1 : Int) := of_decide_eq_true (by assumption)
    have q116 : x10_1 < (t104.length : Int) := of_decide_eq_true (by assumption)
    obtain ⟨ad116, e116, hx116_0⟩ := Kd.at_string (Kd.R_reads' HO_8.out).2.2 x10_1 p116 q116
    obtain rfl : ad110 = ad116 := (by injection e116)
    replace p116 := eq_true p116
    replace q116 := eq_true q116
    refine start_ (n := 8) (S := fun w' => w'.cell? ⟨gb115, 0, none⟩ = some (.string t111) ∧ w'.cell? ⟨gb115, 1, none⟩ = some (.string t112) ∧ w'.cell? ⟨gb115, 2, none⟩ = some (.int .i64 t113) ∧ w'.cell? ⟨gb115, 3, none⟩ = some (.int .i64 t114) ∧ w'.cell? (ad110.add (x10_1).toNat) = some (.string (rdOf ByteArray.empty t104 x10_1))) (ds := []) #[f_,f_,f_,f_,f_,f_,f_,f_] (by kernel_rfl) rfl rfl ⟨(blk_cell BK115.out 0).trans rfl, (blk_cell BK115.out 1).trans rfl, (blk_cell BK115.out 2).trans rfl, (blk_cell BK115.out 3).trans rfl, hx116_0⟩ (fun hHeld => ?_); refine with_tabW spec_l27Merge.tab9 spec_l27Merge.bits9 (fun HT_ HW_ => ?_)
    generalize w22.drew = w23 at HO_8 HO_9 BK115 HB hx116_0 hHeld ⊢
    refine pure_ (i := 1) (N := some 36) (v := ?_) (a' := ?_) #[f_,t_,f_,f_,f_,f_,f_,f_] rfl rfl (any_of HT_.out (by kernel_rfl)) (fun _ _ _ h => h) (Or.inl ⟨by rfl, ?_⟩) ?_ ?_
    rotate_left
    ·intro w'
     go_simp
     with_reducible rfl
    rotate_left
    ·simp only [Act.put, List.setIfInBounds_toArray, List.set_cons_zero, List.set_cons_succ, i64_w, i32_w]
     rfl
    refine pure_ (i := 2) (N := some 37) (v := ?_) (a' := ?_) #[f_,t_,t_,f_,f_,f_,f_,f_] rfl rfl (any_of HT_.out (by kernel_rfl)) (fun _ _ _ h => h) (Or.inl ⟨by rfl, ?_⟩) ?_ ?_
    rotate_left
    ·intro w'
     go_simp
     with_reducible rfl
    rotate_left
    ·simp only [Act.put, List.setIfInBounds_toArray, List.set_cons_zero, List.set_cons_succ, i64_w, i32_w]
     rfl
    refine pure_ (i := 3) (N := some 38) (v := ?_) (a' := ?_) #[f_,t_,t_,t_,f_,f_,f_,f_] rfl rfl (any_of HT_.out (by kernel_rfl)) (fun _ _ _ h => h) (Or.inl ⟨by rfl, ?_⟩) ?_ ?_
    rotate_left
    ·intro w'
     go_simp
     with_reducible rfl
    rotate_left
    ·simp only [Act.put, List.setIfInBounds_toArray, List.set_cons_zero, List.set_cons_succ, i64_w, i32_w]
     rfl
    refine pure_ (i := 4) (N := some 39) (v := ?_) (a' := ?_) #[f_,t_,t_,t_,t_,f_,f_,f_] rfl rfl (any_of HT_.out (by kernel_rfl)) (fun _ _ _ h => h) (Or.inl ⟨by rfl, ?_⟩) ?_ ?_
    rotate_left
    ·intro w'
     go_simp
     with_reducible rfl
    rotate_left
    ·simp only [Act.put, List.setIfInBounds_toArray, List.set_cons_zero, List.set_cons_succ, i64_w, i32_w]
     rfl
    refine take_ (i := 0) (N := some 35) (v := ?_) (a' := ?_) #[t_,t_,t_,t_,t_,f_,f_,f_] rfl rfl (take_ofW HT_.out HW_.out (by kernel_rfl)) (fun _ _ _ h => h) (Or.inl ⟨by rfl, ?_⟩) hHeld ?_ ?_
    rotate_left
    ·rintro w' ⟨s0, s1, s2, s3, s4⟩
     go_simp
     with_reducible rfl
    rotate_left
    ·simp only [Act.put, List.setIfInBounds_toArray, List.set_cons_zero, List.set_cons_succ, i64_w, i32_w]
     rfl
    refine take_ (i := 5) (N := some 40) (v := ?_) (a' := ?_) #[t_,t_,t_,t_,t_,t_,f_,f_] rfl rfl (take_ofW HT_.out HW_.out (by kernel_rfl)) (fun _ _ _ h => h) (Or.inl ⟨by rfl, ?_⟩) hHeld ?_ ?_
    rotate_left
    ·rintro w' ⟨s0, s1, s2, s3, s4⟩
     go_simp
     with_reducible rfl
    rotate_left
    ·simp only [Act.put, List.setIfInBounds_toArray, List.set_cons_zero, List.set_cons_succ, i64_w, i32_w]
     rfl
    refine one_ (i := 6) (N := some 41) #[t_,t_,t_,t_,t_,t_,t_,f_] rfl rfl (one_of HT_.out (by kernel_rfl)) (by decide) (fun K hK => ?_)
    (first | refine goes_ Try.func67 (by kernel_rfl) rfl #[.slice A0 l0.length c0, .string (rdOf ByteArray.empty t104 x10_1)] (by rfl) rfl rfl (by first | rfl | (simp only [List.map_toArray, List.map_cons, List.map_nil]; first | done | rfl)) ?_ | refine RPW.goesV_ Try.func67 (by kernel_rfl) rfl #[.slice A0 l0.length c0, .string (rdOf ByteArray.empty t104 x10_1)] (by rfl) rfl rfl rfl (by first | rfl | (simp only [List.map_toArray, List.map_cons, List.map_nil]; first | done | rfl)) ?_ | refine RPW.goesC_ Try.func67 (by kernel_rfl) rfl #[.slice A0 l0.length c0, .string (rdOf ByteArray.empty t104 x10_1)] (by rfl) rfl rfl rfl (by first | rfl | (simp only [List.map_toArray, List.map_cons, List.map_nil]; first | done | rfl)) ?_)
    with_reducible refine (spec_l27Get.calls k1 _ _ l0 (rdOf ByteArray.empty t104 x10_1) t117 t118 t119 t120 _ ?side1 ?side2 A16.out).mono ?_
    (case side1 => repeat (first | exact (Kd.C_below HR0.out HB.out) | (with_reducible first | refine Kd.C_alloc ?_ _ | refine Kd.C_drewN ?_ _ | refine Kd.C_drew ?_)))
    (case side2 => exact HC0.out)
    rintro e w24 ⟨rfl, hb⟩
    have HS4_ := (hb.cell (bl_ _ _ (hHeld.2.2.2.2))).trans (hHeld.2.2.2.2)
    refine ⟨_, rfl, ?_⟩
    have n0_ := Aside0.mk (Kd.R_below (by (with_reducible repeat (first | apply Kd.R_alloc | apply Kd.R_drewN | apply Kd.R_drew)); exact HO_8.out) hb)
    have n1_ := Aside0.mk (Kd.R_below (by (with_reducible repeat (first | apply Kd.R_alloc | apply Kd.R_drewN | apply Kd.R_drew)); exact HO_9.out) hb)
    have n2_ := Aside0.mk (blk_below (g := gb115) (o := .cells #[.string t111, .string t112, .int .i64 t113, .int .i64 t114] 63 (0, 0)) (by (with_reducible repeat (first | refine blk_drewN ?_ _ | refine blk_drew ?_ | refine blk_alloc ?_ _)); exact BK115.out) hb)
    have n3_ := Aside0.mk (below_step (by repeat (first | (with_reducible first | exact HB.out | apply bA_ | apply bN_ | apply bD_ | refine below_set ?_ GE115.out) | exact HB.out)) hb)
    clear HO_8
    clear HO_9
    clear BK115
    clear HB
    have HO_8 := n0_
    have HO_9 := n1_
    have BK115 := n2_
    have HB := n3_
    clear n0_ n1_ n2_ n3_
    (try clear hb)
    refine hK.out _ _ ⟨(blk_cell BK115.out 0).trans rfl, (blk_cell BK115.out 1).trans rfl, (blk_cell BK115.out 2).trans rfl, (blk_cell BK115.out 3).trans rfl, HS4_⟩ (fun hHeld => ?_)
    clear hK K
    refine norm_ (a' := ?_) ?_ ?_
    rotate_left
    ·show Act.put _ (some 41) _ = _
     simp only [Act.put, List.setIfInBounds_toArray, List.set_cons_zero, List.set_cons_succ, i64_w, i32_w]
     rfl
    refine pure_ (i := 7) (N := some 42) (v := ?_) (a' := ?_) #[t_,t_,t_,t_,t_,t_,t_,t_] rfl rfl (any_of HT_.out (by kernel_rfl)) (fun _ _ _ h => h) (Or.inl ⟨by rfl, ?_⟩) ?_ ?_
    rotate_left
    ·intro w'
     go_simp
     with_reducible rfl
    rotate_left
    ·simp only [Act.put, List.setIfInBounds_toArray, List.set_cons_zero, List.set_cons_succ, i64_w, i32_w]
     rfl
    refine done_ (done_of HT_.out (by kernel_rfl)) ?_
    go_upto_if 42 with (fail)
    have H := HC17.out
    clear HC17
    by_cases c25 : (t111.toList == t117.toList && ((t112.toList == t118.toList && (t113 == t119 && (t114 == t120))))) = true
    rotate_left
    ·rw [if_neg c25] at H
     have c25b0 : (t111.toList == t117.toList && ((t112.toList == t118.toList && (t113 == t119 && (t114 == t120))))) = false := by simpa using c25
     (try (have c25b1 : decide (t111.toList = t117.toList && ((t112.toList == t118.toList && (t113 == t119 && (t114 == t120))))) = false := by simpa using c25))
     (try (have c25b2 : (t111.toList == t117.toList && ((t112.toList == t118.toList && (t113 == t119 && (t114 == t120))))) = false := by simpa using c25))
     (try (have c25b3 : ¬ (t111.toList = t117.toList && ((t112.toList == t118.toList && (t113 == t119 && (t114 == t120))))) := by simpa using c25))
     clear c25
     (first | rw [c25b0] | (simp only [i64_w, i32_w]; rw [c25b0]) | (simp only [c25b1, Bool.not_true, Bool.not_false]) | (simp only [c25b0, Bool.not_true, Bool.not_false]) | skip)
     by_cases c34 : t111.toList = ([] : List UInt8)
     rotate_left
     ·rw [if_neg c34] at H
      have c34b0 : (t111.toList == ([] : List UInt8)) = false := beq_eq_false_iff_ne.mpr c34
      have c34b1 : (t111.toList != ([] : List UInt8)) = true := bne_iff_ne.mpr c34
      (try (have c34b8 := c34b0; simp only [List.beq_nil_eq] at c34b8))
      by_cases c36 : x9_1.length < 2932031007402
      rotate_left
      ·rw [if_neg c36] at H
       exact absurd H (by simp)
      rw [if_pos c36] at H
      have LMc36 := Aside0.mk c36
      clear c36
      obtain ⟨y129, hy129⟩ : ∃ y_ : List (S63), y_ = (x9_1 ++ [(⟨t111, (⟨t112, t113, t114⟩ : S61)⟩ : S63)]) := ⟨_, rfl⟩
      replace H : (spec_l27Merge.l0 k1 l0 l1 l2 t104 y129 (wrap64 (x10_1 + 1))) = some (r1, r2) := by first | (rw [hy129]; with_reducible exact H) | (have H2_ := (Option.bind_some _ _).symm.trans H; rw [hy129]; with_reducible exact H2_) | (have H2_ := (Option.bind_some _ _).symm.trans H; with_reducible exact H2_) | with_reducible exact H | (rw [hy129]; exact H) | exact H
      have Ny129 := Aside0.mk hy129
      clear hy129
      have H' := Aside0.mk H
      clear H
      have hcz37_0 : w24.cell? ⟨gb115, 0, none⟩ = some (.string t111) := (blk_cell BK115.out 0).trans rfl
      have hcz37_1 : w24.cell? ⟨gb115, 1, none⟩ = some (.string t112) := (blk_cell BK115.out 1).trans rfl
      have hcz37_2 : w24.cell? ⟨gb115, 2, none⟩ = some (.int .i64 t113) := (blk_cell BK115.out 2).trans rfl
      have hcz37_3 : w24.cell? ⟨gb115, 3, none⟩ = some (.int .i64 t114) := (blk_cell BK115.out 3).trans rfl
      have hfz37_0 := blk_frozen BK115.out 0
      have hfz37_1 := blk_frozen BK115.out 1
      have hfz37_2 := blk_frozen BK115.out 2
      have hfz37_3 := blk_frozen BK115.out 3
      go_wp2_with (first | ((with_reducible refine gate_builtin (b := .append) (xs := #[.tmp 52, .tmp 54]) rfl ?_); at_builtin; refine Kd.R_append k63 (w0 := w) w.heap.size rfl (.tmp 52) (.tmp 54) 27 63 (.agg #[(.string ⟨#[]⟩), (.string ⟨#[]⟩), (.int .i64 0), (.int .i64 0)]) 48 rfl Try.underlying27 info63 rfl (by decide) (by omega) u9 x9_1 (⟨t111, (⟨t112, t113, t114⟩ : S61)⟩ : S63) [.string t111, .string t112, .int .i64 t113, .int .i64 t114] (fun k_ => k_ ≠ gb115) (fun _ => False) rfl rfl ?aP (fun _ hk => hk.elim) ?aF ?aO ?aB ?aS ?aL ?_; (case aP => exact k63_mkM _ _ _ (⟨t111, (⟨t112, t113, t114⟩ : S61)⟩ : S63)); (case aB => exact (by repeat (first | (with_reducible first | exact HB.out | apply bA_ | apply bN_ | apply bD_ | refine below_set ?_ GE115.out) | exact HB.out))); (case aF => exact (fun k_ hk => Kd.freshB (g := gb115) (o := .cells #[.string t111, .string t112, .int .i64 t113, .int .i64 t114] 63 (0, 0)) (by (with_reducible repeat (first | refine blk_drewN ?_ _ | refine blk_drew ?_ | refine blk_alloc ?_ _)); exact BK115.out) k_ hk)); (case aO => exact (by (with_reducible repeat (first | apply Kd.R_alloc | apply Kd.R_drewN | apply Kd.R_drew)); exact HO_9.out)); (case aS => exact (below_size (by repeat (first | (with_reducible first | exact HB.out | apply bA_ | apply bN_ | apply bD_ | refine below_set ?_ GE115.out) | exact HB.out)))); (case aL => have := LMc36.out; omega); intro v130 w38 ho hb hg hat; rw [← Ny129.out] at ho; have n0_ := Aside0.mk (Kd.R_over' (by (with_reducible repeat (first | apply Kd.R_alloc | apply Kd.R_drewN | apply Kd.R_drew)); exact HO_8.out) (Kd.R_typed (by (with_reducible repeat (first | apply Kd.R_alloc | apply Kd.R_drewN | apply Kd.R_drew)); exact HO_9.out)) (by decide) hg); have n1_ := Aside0.mk (blk_grown (g := gb115) (o := .cells #[.string t111, .string t112, .int .i64 t113, .int .i64 t114] 63 (0, 0)) (by (with_reducible repeat (first | refine blk_drewN ?_ _ | refine blk_drew ?_ | refine blk_alloc ?_ _)); exact BK115.out) hg (Kd.R_away HO_9.out (fun _ hk => hk))); have n2_ := Aside0.mk (hb); have n3_ := Aside0.mk (ho); clear HO_8; clear BK115; clear HB; clear HO_9; have HO_8 := n0_; have BK115 := n1_; have HB := n2_; have HO131 := n3_; clear n0_ n1_ n2_ n3_; clear ho hb hg hat))
      go_roundg k1
      case measure => have := HK1.out; omega
      case rel => exact ⟨(y129), (wrap64 (x10_1 + 1)), (by first | rfl | (simp; done) | (simp [*]; done)), H', ⟨by have := HK1.out; omega⟩, ⟨by (with_reducible repeat (first | apply Kd.R_alloc | apply Kd.R_drewN | apply Kd.R_drew)); exact HO_8.out⟩, ⟨by (with_reducible repeat (first | apply Kd.R_alloc | apply Kd.R_drewN | apply Kd.R_drew)); exact Kd.R_mono HO131.out (fun _ hk => trivial)⟩, ⟨by repeat (first | (with_reducible first | exact HB.out | apply bA_ | apply bN_ | apply bD_ | refine below_set ?_ GE115.out) | exact HB.out)⟩⟩
     rw [if_pos c34] at H
     have c34b0 : (t111.toList == ([] : List UInt8)) = true := beq_iff_eq.mpr c34
     have c34b1 : (t111.toList != ([] : List UInt8)) = false := bne_eq_false_iff_eq.mpr c34
     (try (have c34b8 := c34b0; simp only [List.beq_nil_eq] at c34b8))
     clear c34
     have H' := Aside0.mk H
     clear H
     have hcz35_0 : w24.cell? ⟨gb115, 0, none⟩ = some (.string t111) := (blk_cell BK115.out 0).trans rfl
     have hcz35_1 : w24.cell? ⟨gb115, 1, none⟩ = some (.string t112) := (blk_cell BK115.out 1).trans rfl
     have hcz35_2 : w24.cell? ⟨gb115, 2, none⟩ = some (.int .i64 t113) := (blk_cell BK115.out 2).trans rfl
     have hcz35_3 : w24.cell? ⟨gb115, 3, none⟩ = some (.int .i64 t114) := (blk_cell BK115.out 3).trans rfl
     have hfz35_0 := blk_frozen BK115.out 0
     have hfz35_1 := blk_frozen BK115.out 1
     have hfz35_2 := blk_frozen BK115.out 2
     have hfz35_3 := blk_frozen BK115.out 3
     go_wp2
     go_roundg k1
     case measure => have := HK1.out; omega
     case rel => exact ⟨(x9_1), (wrap64 (x10_1 + 1)), (by first | rfl | (simp; done) | (simp [*]; done)), H', ⟨by have := HK1.out; omega⟩, ⟨by (with_reducible repeat (first | apply Kd.R_alloc | apply Kd.R_drewN | apply Kd.R_drew)); exact HO_8.out⟩, ⟨by (with_reducible repeat (first | apply Kd.R_alloc | apply Kd.R_drewN | apply Kd.R_drew)); exact Kd.R_mono HO_9.out (fun _ hk => trivial)⟩, ⟨by repeat (first | (with_reducible first | exact HB.out | apply bA_ | apply bN_ | apply bD_ | refine below_set ?_ GE115.out) | exact HB.out)⟩⟩
    rw [if_pos c25] at H
    have c25b0 : (t111.toList == t117.toList && ((t112.toList == t118.toList && (t113 == t119 && (t114 == t120))))) = true := c25
    (try (have c25b1 : decide (t111.toList = t117.toList && ((t112.toList == t118.toList && (t113 == t119 && (t114 == t120))))) = true := by simpa using c25))
    (try (have c25b2 : (t111.toList == t117.toList && ((t112.toList == t118.toList && (t113 == t119 && (t114 == t120))))) = true := by simpa using c25))
    clear c25
    (first | rw [c25b0] | (simp only [i64_w, i32_w]; rw [c25b0]) | (simp only [c25b1, Bool.not_true, Bool.not_false]) | (simp only [c25b0, Bool.not_true, Bool.not_false]) | skip)
    replace H := Option.bind_eq_some_iff.mp H
    obtain ⟨⟨t122, t123, t124, t125⟩, A260, H⟩ := H
    (try dsimp only at H)
    have A26 := Aside0.mk A260
    clear A260
    have HC27 := Aside0.mk H
    clear H
    have p121 : 0 ≤ (x10_1 : Int) := of_decide_eq_true (by assumption)
    have q121 : x10_1 < (t104.length : Int) := of_decide_eq_true (by assumption)
    obtain ⟨ad121, e121, hx121_0⟩ := Kd.at_string (Kd.R_reads' HO_8.out).2.2 x10_1 p121 q121
    obtain rfl : ad110 = ad121 := (by injection e121)
    replace p121 := eq_true p121
    replace q121 := eq_true q121
    go_upto_if 51 with (first | ((with_reducible refine gate_callee (f := 67) rfl ?_); refine goesL_ (some 48) rfl rfl Try.func67 (by kernel_rfl) rfl #[.slice A2 l2.length c2, .string (rdOf ByteArray.empty t104 x10_1)] rfl (by first | rfl | (simp only [List.map_toArray, List.map_cons, List.map_nil]; first | done | rfl)) ?_; (with_reducible refine (spec_l27Get.calls k1 _ _ l2 (rdOf ByteArray.empty t104 x10_1) t122 t123 t124 t125 _ ?side1 ?side2 A26.out).mono ?_); (case side1 => repeat (first | exact (Kd.C_below HR2.out (by repeat (first | (with_reducible first | exact HB.out | apply bA_ | apply bN_ | apply bD_ | refine below_set ?_ GE115.out) | exact HB.out))) | (with_reducible first | refine Kd.C_alloc ?_ _ | refine Kd.C_drewN ?_ _ | refine Kd.C_drew ?_))); (case side2 => exact HC2.out); rintro e w28 ⟨rfl, hb⟩; refine ⟨_, rfl, ?_⟩; have n0_ := Aside0.mk (Kd.R_below (by (with_reducible repeat (first | apply Kd.R_alloc | apply Kd.R_drewN | apply Kd.R_drew)); exact HO_8.out) hb); have n1_ := Aside0.mk (Kd.R_below (by (with_reducible repeat (first | apply Kd.R_alloc | apply Kd.R_drewN | apply Kd.R_drew)); exact HO_9.out) hb); have n2_ := Aside0.mk (blk_below (g := gb115) (o := .cells #[.string t111, .string t112, .int .i64 t113, .int .i64 t114] 63 (0, 0)) (by (with_reducible repeat (first | refine blk_drewN ?_ _ | refine blk_drew ?_ | refine blk_alloc ?_ _)); exact BK115.out) hb); have n3_ := Aside0.mk (below_step (by repeat (first | (with_reducible first | exact HB.out | apply bA_ | apply bN_ | apply bD_ | refine below_set ?_ GE115.out) | exact HB.out)) hb); clear HO_8; clear HO_9; clear BK115; clear HB; have HO_8 := n0_; have HO_9 := n1_; have BK115 := n2_; have HB := n3_; clear n0_ n1_ n2_ n3_; (try clear hb); have hcz29_0 : w28.cell? ⟨gb115, 0, none⟩ = some (.string t111) := (blk_cell BK115.out 0).trans rfl; have hcz29_1 : w28.cell? ⟨gb115, 1, none⟩ = some (.string t112) := (blk_cell BK115.out 1).trans rfl; have hcz29_2 : w28.cell? ⟨gb115, 2, none⟩ = some (.int .i64 t113) := (blk_cell BK115.out 2).trans rfl; have hcz29_3 : w28.cell? ⟨gb115, 3, none⟩ = some (.int .i64 t114) := (blk_cell BK115.out 3).trans rfl; have hfz29_0 := blk_frozen BK115.out 0; have hfz29_1 := blk_frozen BK115.out 1; have hfz29_2 := blk_frozen BK115.out 2; have hfz29_3 := blk_frozen BK115.out 3))
    (try simp only [Act.put, List.setIfInBounds_toArray, List.set_cons_zero, List.set_cons_succ])
    have H := HC27.out
    clear HC27
    by_cases c30 : t122.toList = ([] : List UInt8)
    rotate_left
    ·rw [if_neg c30] at H
     have c30b0 : (t122.toList == ([] : List UInt8)) = false := beq_eq_false_iff_ne.mpr c30
     have c30b1 : (t122.toList != ([] : List UInt8)) = true := bne_iff_ne.mpr c30
     (try (have c30b8 := c30b0; simp only [List.beq_nil_eq] at c30b8))
     (first | rw [c30b0] | (simp only [i64_w, i32_w]; rw [c30b0]) | (simp only [c30b1, Bool.not_true, Bool.not_false]) | (simp only [c30b0, Bool.not_true, Bool.not_false]) | rw [c30b8] | (simp only [c30b8, Bool.not_true, Bool.not_false]) | skip)
     by_cases c31 : x9_1.length < 2932031007402
     rotate_left
     ·rw [if_neg c31] at H
      exact absurd H (by simp)
     rw [if_pos c31] at H
     have LMc31 := Aside0.mk c31
     clear c31
     obtain ⟨y126, hy126⟩ : ∃ y_ : List (S63), y_ = (x9_1 ++ [(⟨t122, (⟨t123, t124, t125⟩ : S61)⟩ : S63)]) := ⟨_, rfl⟩
     replace H : (spec_l27Merge.l0 k1 l0 l1 l2 t104 y126 (wrap64 (x10_1 + 1))) = some (r1, r2) := by first | (rw [hy126]; with_reducible exact H) | (have H2_ := (Option.bind_some _ _).symm.trans H; rw [hy126]; with_reducible exact H2_) | (have H2_ := (Option.bind_some _ _).symm.trans H; with_reducible exact H2_) | with_reducible exact H | (rw [hy126]; exact H) | exact H
     have Ny126 := Aside0.mk hy126
     clear hy126
     have H' := Aside0.mk H
     clear H
     have hcz32_0 : w28.cell? ⟨gb115, 0, none⟩ = some (.string t111) := (blk_cell BK115.out 0).trans rfl
     have hcz32_1 : w28.cell? ⟨gb115, 1, none⟩ = some (.string t112) := (blk_cell BK115.out 1).trans rfl
     have hcz32_2 : w28.cell? ⟨gb115, 2, none⟩ = some (.int .i64 t113) := (blk_cell BK115.out 2).trans rfl
     have hcz32_3 : w28.cell? ⟨gb115, 3, none⟩ = some (.int .i64 t114) := (blk_cell BK115.out 3).trans rfl
     have hfz32_0 := blk_frozen BK115.out 0
     have hfz32_1 := blk_frozen BK115.out 1
     have hfz32_2 := blk_frozen BK115.out 2
     have hfz32_3 := blk_frozen BK115.out 3
     go_wp2_with (first | ((with_reducible refine gate_builtin (b := .append) (xs := #[.tmp 52, .tmp 54]) rfl ?_); at_builtin; refine Kd.R_append k63 (w0 := w) w.heap.size rfl (.tmp 52) (.tmp 54) 27 63 (.agg #[(.string ⟨#[]⟩), (.string ⟨#[]⟩), (.int .i64 0), (.int .i64 0)]) 48 rfl Try.underlying27 info63 rfl (by decide) (by omega) u9 x9_1 (⟨t122, (⟨t123, t124, t125⟩ : S61)⟩ : S63) [.string t122, .string t123, .int .i64 t124, .int .i64 t125] (fun k_ => k_ ≠ gb115) (fun _ => False) rfl (by first | (go_simp; done) | (go_simp; rfl)) ?aP (fun _ hk => hk.elim) ?aF ?aO ?aB ?aS ?aL ?_; (case aP => exact k63_mkM _ _ _ (⟨t122, (⟨t123, t124, t125⟩ : S61)⟩ : S63)); (case aB => exact (by repeat (first | (with_reducible first | exact HB.out | apply bA_ | apply bN_ | apply bD_ | refine below_set ?_ GE115.out) | exact HB.out))); (case aF => exact (fun k_ hk => Kd.freshB (g := gb115) (o := .cells #[.string t122, .string t123, .int .i64 t124, .int .i64 t125] 63 (0, 0)) (by (with_reducible repeat (first | refine blk_drewN ?_ _ | refine blk_drew ?_ | refine blk_alloc ?_ _)); refine blk_put (cs := #[.string t122, .string t123, .int .i64 t124, .int .i64 t114]) ?_ 3 _ rfl; (with_reducible repeat (first | refine blk_drewN ?_ _ | refine blk_drew ?_ | refine blk_alloc ?_ _)); refine blk_put (cs := #[.string t122, .string t123, .int .i64 t113, .int .i64 t114]) ?_ 2 _ rfl; (with_reducible repeat (first | refine blk_drewN ?_ _ | refine blk_drew ?_ | refine blk_alloc ?_ _)); refine blk_put (cs := #[.string t122, .string t112, .int .i64 t113, .int .i64 t114]) ?_ 1 _ rfl; (with_reducible repeat (first | refine blk_drewN ?_ _ | refine blk_drew ?_ | refine blk_alloc ?_ _)); refine blk_put (cs := #[.string t111, .string t112, .int .i64 t113, .int .i64 t114]) ?_ 0 _ rfl; (with_reducible repeat (first | refine blk_drewN ?_ _ | refine blk_drew ?_ | refine blk_alloc ?_ _)); exact BK115.out) k_ hk)); (case aO => exact (by (with_reducible repeat (first | apply Kd.R_alloc | apply Kd.R_drewN | apply Kd.R_drew)); exact Kd.R_mono (Kd.R_far (p := ⟨gb115, 3, none⟩) (Kd.R_far (p := ⟨gb115, 2, none⟩) (Kd.R_far (p := ⟨gb115, 1, none⟩) (Kd.R_far (p := ⟨gb115, 0, none⟩) (Kd.R_mono HO_9.out (fun k_ hk => (⟨hk, hk⟩ : _ ∧ k_ ≠ gb115))) (fun _ hk => hk.2) (.string t122)) (fun _ hk => hk.2) (.string t123)) (fun _ hk => hk.2) (.int .i64 t124)) (fun _ hk => hk.2) (.int .i64 t125)) (fun _ hk => hk.1))); (case aS => exact (below_size (by repeat (first | (with_reducible first | exact HB.out | apply bA_ | apply bN_ | apply bD_ | refine below_set ?_ GE115.out) | exact HB.out)))); (case aL => have := LMc31.out; omega); intro v127 w33 ho hb hg hat; rw [← Ny126.out] at ho; have n0_ := Aside0.mk (Kd.R_over' (by (with_reducible repeat (first | apply Kd.R_alloc | apply Kd.R_drewN | apply Kd.R_drew)); exact (Kd.R_mono (Kd.R_far (p := ⟨gb115, 3, none⟩) (Kd.R_far (p := ⟨gb115, 2, none⟩) (Kd.R_far (p := ⟨gb115, 1, none⟩) (Kd.R_far (p := ⟨gb115, 0, none⟩) (Kd.R_types HO_8.out BK115.out (by decide)) (fun _ hk => hk.2) (.string t122)) (fun _ hk => hk.2) (.string t123)) (fun _ hk => hk.2) (.int .i64 t124)) (fun _ hk => hk.2) (.int .i64 t125)) (fun _ h_ => h_.1))) (Kd.R_typed (by (with_reducible repeat (first | apply Kd.R_alloc | apply Kd.R_drewN | apply Kd.R_drew)); exact (Kd.R_mono (Kd.R_far (p := ⟨gb115, 3, none⟩) (Kd.R_far (p := ⟨gb115, 2, none⟩) (Kd.R_far (p := ⟨gb115, 1, none⟩) (Kd.R_far (p := ⟨gb115, 0, none⟩) (Kd.R_mono HO_9.out (fun k_ hk => (⟨hk, hk⟩ : _ ∧ k_ ≠ gb115))) (fun _ hk => hk.2) (.string t122)) (fun _ hk => hk.2) (.string t123)) (fun _ hk => hk.2) (.int .i64 t124)) (fun _ hk => hk.2) (.int .i64 t125)) (fun _ h_ => h_.1)))) (by decide) hg); have n1_ := Aside0.mk (blk_grown (g := gb115) (o := .cells #[.string t122, .string t123, .int .i64 t124, .int .i64 t125] 63 (0, 0)) (by (with_reducible repeat (first | refine blk_drewN ?_ _ | refine blk_drew ?_ | refine blk_alloc ?_ _)); refine blk_put (cs := #[.string t122, .string t123, .int .i64 t124, .int .i64 t114]) ?_ 3 _ rfl; (with_reducible repeat (first | refine blk_drewN ?_ _ | refine blk_drew ?_ | refine blk_alloc ?_ _)); refine blk_put (cs := #[.string t122, .string t123, .int .i64 t113, .int .i64 t114]) ?_ 2 _ rfl; (with_reducible repeat (first | refine blk_drewN ?_ _ | refine blk_drew ?_ | refine blk_alloc ?_ _)); refine blk_put (cs := #[.string t122, .string t112, .int .i64 t113, .int .i64 t114]) ?_ 1 _ rfl; (with_reducible repeat (first | refine blk_drewN ?_ _ | refine blk_drew ?_ | refine blk_alloc ?_ _)); refine blk_put (cs := #[.string t111, .string t112, .int .i64 t113, .int .i64 t114]) ?_ 0 _ rfl; (with_reducible repeat (first | refine blk_drewN ?_ _ | refine blk_drew ?_ | refine blk_alloc ?_ _)); exact BK115.out) hg (Kd.R_away HO_9.out (fun _ hk => hk))); have n2_ := Aside0.mk (hb); have n3_ := Aside0.mk (ho); clear HO_8; clear BK115; clear HB; clear HO_9; have HO_8 := n0_; have BK115 := n1_; have HB := n2_; have HO128 := n3_; clear n0_ n1_ n2_ n3_; clear ho hb hg hat))
     go_roundg k1
     case measure => have := HK1.out; omega
     case rel => exact ⟨(y126), (wrap64 (x10_1 + 1)), (by first | rfl | (simp; done) | (simp [*]; done)), H', ⟨by have := HK1.out; omega⟩, ⟨by (with_reducible repeat (first | apply Kd.R_alloc | apply Kd.R_drewN | apply Kd.R_drew)); exact HO_8.out⟩, ⟨by (with_reducible repeat (first | apply Kd.R_alloc | apply Kd.R_drewN | apply Kd.R_drew)); exact Kd.R_mono HO128.out (fun _ hk => trivial)⟩, ⟨by repeat (first | (with_reducible first | exact HB.out | apply bA_ | apply bN_ | apply bD_ | refine below_set ?_ GE115.out) | exact HB.out)⟩⟩
    rw [if_pos c30] at H
    have c30b0 : (t122.toList == ([] : List UInt8)) = true := beq_iff_eq.mpr c30
    have c30b1 : (t122.toList != ([] : List UInt8)) = false := bne_eq_false_iff_eq.mpr c30
    (try (have c30b8 := c30b0; simp only [List.beq_nil_eq] at c30b8))
    clear c30
    (first | rw [c30b0] | (simp only [i64_w, i32_w]; rw [c30b0]) | (simp only [c30b1, Bool.not_true, Bool.not_false]) | (simp only [c30b0, Bool.not_true, Bool.not_false]) | rw [c30b8] | (simp only [c30b8, Bool.not_true, Bool.not_false]) | skip)
    have H' := Aside0.mk H
    clear H
    go_wp2
    go_roundg k1
    case measure => have := HK1.out; omega
    case rel => exact ⟨(x9_1), (wrap64 (x10_1 + 1)), (by first | rfl | (simp; done) | (simp [*]; done)), H', ⟨by have := HK1.out; omega⟩, ⟨by (with_reducible repeat (first | apply Kd.R_alloc | apply Kd.R_drewN | apply Kd.R_drew)); exact Kd.R_mono (Kd.R_far (p := ⟨gb115, 3, none⟩) (Kd.R_far (p := ⟨gb115, 2, none⟩) (Kd.R_far (p := ⟨gb115, 1, none⟩) (Kd.R_far (p := ⟨gb115, 0, none⟩) (Kd.R_types HO_8.out BK115.out (by decide)) (fun _ hk => hk.2) (.string t122)) (fun _ hk => hk.2) (.string t123)) (fun _ hk => hk.2) (.int .i64 t124)) (fun _ hk => hk.2) (.int .i64 t125)) (fun _ hk => trivial)⟩, ⟨by (with_reducible repeat (first | apply Kd.R_alloc | apply Kd.R_drewN | apply Kd.R_drew)); exact Kd.R_mono (Kd.R_far (p := ⟨gb115, 3, none⟩) (Kd.R_far (p := ⟨gb115, 2, none⟩) (Kd.R_far (p := ⟨gb115, 1, none⟩) (Kd.R_far (p := ⟨gb115, 0, none⟩) (Kd.R_mono HO_9.out (fun k_ hk => (⟨hk, hk⟩ : _ ∧ k_ ≠ gb115))) (fun _ hk => hk.2) (.string t122)) (fun _ hk => hk.2) (.string t123)) (fun _ hk => hk.2) (.int .i64 t124)) (fun _ hk => hk.2) (.int .i64 t125)) (fun _ hk => trivial)⟩, ⟨by repeat (first | (with_reducible first | exact HB.out | apply bA_ | apply bN_ | apply bD_ | refine below_set ?_ GE115.out) | exact HB.out)⟩⟩
 rw [if_pos c8] at H
 have c8b0 : decide (0 < (t101.length : Int)) = true := decide_eq_true c8
 have c8b1 : decide (0 < t101.length) = true := decide_eq_true (by omega)
 clear c8
 (first | rw [c8b0] | (simp only [i64_w, i32_w]; rw [c8b0]) | (simp only [c8b1, Bool.not_true, Bool.not_false]) | (simp only [c8b0, Bool.not_true, Bool.not_false]) | skip)
 simp only [Option.some.injEq, Prod.mk.injEq] at H
 obtain ⟨rfl, rfl⟩ := H
 go_wp2
 go_ret2
 exact ⟨_, by first | rfl | (simp [*, errW_none, errW_some] <;> rfl), by first | exact Kd.R_nil _ _ _ _ _ | exact Kd.N_nil _ _ _ _ _ | exact Kd.V_nil _ _ _ _ _ | exact Kd.Q_nil _ _ _ _ _ | exact Kd.S_nil _ _ _ _ _, by repeat (first | (with_reducible first | exact HB.out | apply bA_ | apply bN_ | apply bD_))⟩
end Go.Proofs.Ytiheginanghhjaa.Q
namespace Go.Proofs.Ytiheginanghhjaa.Q
open Go.RowKit Go.Proofs.YtiheginanghhjaaW.PrintWords Go.Proofs.YtiheginanghhjaaW.PrintLast Go.Proofs.YtiheginanghhjaaW.PrintMore
attribute [local go_sem] max2_int min2_int max_two min_two max_three min_three max_four min_four
set_option linter.unusedVariables false
set_option linter.unusedSimpArgs false
def spec_MergeStates.f (k : Nat) (l0 : List (S63)) (l1 : List (S63)) (l2 : List (S63)) : Option ((List (S63)) × Int) := (spec_l27State.f k l0).bind fun t101 => (if t101 = true then ((spec_l27State.f k l1).bind fun t102 => (if t102 = true then ((spec_l27State.f k l2).bind fun t103 => (if t103 = true then ((spec_l27Merge.f k l0 l1 l2).bind fun bt104 => (some (bt104.1, bt104.2))) else (some (([] : List (S63)), 1)))) else (some (([] : List (S63)), 1)))) else (some (([] : List (S63)), 1)))
set_option maxHeartbeats 8000000 in
set_option maxRecDepth 100000 in
theorem spec_MergeStates.calls (k : Nat) (A0 : Option Addr) (c0 : Nat) (l0 : List (S63)) (A1 : Option Addr) (c1 : Nat) (l1 : List (S63)) (A2 : Option Addr) (c2 : Nat) (l2 : List (S63)) (r1 : List (S63)) (r2 : Int) (w : World) (hr0 : Kd.C k63 w A0 l0.length l0) (hc0 : l0.length ≤ c0) (hr1 : Kd.C k63 w A1 l1.length l1) (hc1 : l1.length ≤ c1) (hr2 : Kd.C k63 w A2 l2.length l2) (hc2 : l2.length ≤ c2) (h : spec_MergeStates.f k l0 l1 l2 = some (r1, r2)) :
  Calls Try.prog 16 #[.slice A0 l0.length c0, .slice A1 l1.length c1, .slice A2 l2.length c2] w fun e w' => ∃ v0_ : Value, e = .returned (.tuple #[v0_, .int .i64 r2]) ∧ Kd.R k63 63 w' w.heap.size (fun _ => True) v0_ r1 ∧ Below w.heap.size w w' := by
 have HR0 := Aside0.mk hr0
 have HC0 := Aside0.mk hc0
 clear hr0 hc0
 have HR1 := Aside0.mk hr1
 have HC1 := Aside0.mk hc1
 clear hr1 hc1
 have HR2 := Aside0.mk hr2
 have HC2 := Aside0.mk hc2
 clear hr2 hc2
 have HB := Aside0.mk (Below.refl w.heap.size w)
 have H : ((spec_l27State.f k l0).bind fun t101 => (if t101 = true then ((spec_l27State.f k l1).bind fun t102 => (if t102 = true then ((spec_l27State.f k l2).bind fun t103 => (if t103 = true then ((spec_l27Merge.f k l0 l1 l2).bind fun bt104 => (some (bt104.1, bt104.2))) else (some (([] : List (S63)), 1)))) else (some (([] : List (S63)), 1)))) else (some (([] : List (S63)), 1)))) = some (r1, r2) := h
 clear h
 replace H := Option.bind_eq_some_iff.mp H
 obtain ⟨t101, A40, H⟩ := H
 (try dsimp only at H)
 have A4 := Aside0.mk A40
 clear A40
 by_cases c5 : t101 = true
 rotate_left
 ·replace c5 := Bool.eq_false_iff.mpr c5
  subst c5
  have H1 : (some (([] : List (S63)), 1)) = some (r1, r2) := by rw [if_neg (show ¬ (false = true) by decide)] at H; exact H
  clear H
  have H := H1
  clear H1
  simp only [Option.some.injEq, Prod.mk.injEq] at H
  obtain ⟨rfl, rfl⟩ := H
  go_enter Try.func16, Try.ntmps16
  go_wp2_with (first | ((with_reducible refine gate_callee (f := 36) rfl ?_); refine goesL_ (some 9) rfl rfl Try.func36 (by kernel_rfl) rfl #[.slice A0 l0.length c0] rfl (by first | rfl | (simp only [List.map_toArray, List.map_cons, List.map_nil]; first | done | rfl)) ?_; (with_reducible refine (spec_l27State.calls k _ _ l0 false _ ?side1 ?side2 A4.out).mono ?_); (case side1 => repeat (first | exact HR0.out | (with_reducible first | refine Kd.C_alloc ?_ _ | refine Kd.C_drewN ?_ _ | refine Kd.C_drew ?_))); (case side2 => exact HC0.out); rintro e w18 ⟨rfl, hb⟩; refine ⟨_, rfl, ?_⟩; have n0_ := Aside0.mk (below_step (by repeat (first | (with_reducible first | exact HB.out | apply bA_ | apply bN_ | apply bD_))) hb); clear HB; have HB := n0_; clear n0_; (try clear hb)))
  go_ret2
  exact ⟨_, by first | rfl | (simp [*, errW_none, errW_some] <;> rfl), by first | exact Kd.R_nil _ _ _ _ _ | exact Kd.N_nil _ _ _ _ _ | exact Kd.V_nil _ _ _ _ _ | exact Kd.Q_nil _ _ _ _ _ | exact Kd.S_nil _ _ _ _ _, by repeat (first | (with_reducible first | exact HB.out | apply bA_ | apply bN_ | apply bD_))⟩
 subst c5
 have H1 : ((spec_l27State.f k l1).bind fun t102 => (if t102 = true then ((spec_l27State.f k l2).bind fun t103 => (if t103 = true then ((spec_l27Merge.f k l0 l1 l2).bind fun bt104 => (some (bt104.1, bt104.2))) else (some (([] : List (S63)), 1)))) else (some (([] : List (S63)), 1)))) = some (r1, r2) := by rw [if_pos rfl] at H; exact H
 clear H
 have H := H1
 clear H1
 replace H := Option.bind_eq_some_iff.mp H
 obtain ⟨t102, A60, H⟩ := H
 (try dsimp only at H)
 have A6 := Aside0.mk A60
 clear A60
 by_cases c7 : t102 = true
 rotate_left
 ·replace c7 := Bool.eq_false_iff.mpr c7
  subst c7
  have H1 : (some (([] : List (S63)), 1)) = some (r1, r2) := by rw [if_neg (show ¬ (false = true) by decide)] at H; exact H
  clear H
  have H := H1
  clear H1
  simp only [Option.some.injEq, Prod.mk.injEq] at H
  obtain ⟨rfl, rfl⟩ := H
  go_enter Try.func16, Try.ntmps16
  go_wp2_with (first | ((with_reducible refine gate_callee (f := 36) rfl ?_); refine goesL_ (some 9) rfl rfl Try.func36 (by kernel_rfl) rfl #[.slice A0 l0.length c0] rfl (by first | rfl | (simp only [List.map_toArray, List.map_cons, List.map_nil]; first | done | rfl)) ?_; (with_reducible refine (spec_l27State.calls k _ _ l0 true _ ?side1 ?side2 A4.out).mono ?_); (case side1 => repeat (first | exact HR0.out | (with_reducible first | refine Kd.C_alloc ?_ _ | refine Kd.C_drewN ?_ _ | refine Kd.C_drew ?_))); (case side2 => exact HC0.out); rintro e w16 ⟨rfl, hb⟩; refine ⟨_, rfl, ?_⟩; have n0_ := Aside0.mk (below_step (by repeat (first | (with_reducible first | exact HB.out | apply bA_ | apply bN_ | apply bD_))) hb); clear HB; have HB := n0_; clear n0_; (try clear hb)) | (go_at_call 36; (with_reducible refine (spec_l27State.calls k _ _ l1 false _ ?side1 ?side2 A6.out).mono ?_); (case side1 => repeat (first | exact (Kd.C_below HR1.out HB.out) | (with_reducible first | refine Kd.C_alloc ?_ _ | refine Kd.C_drewN ?_ _ | refine Kd.C_drew ?_))); (case side2 => exact HC1.out); rintro e w17 ⟨rfl, hb⟩; have n0_ := Aside0.mk (below_step (by repeat (first | (with_reducible first | exact HB.out | apply bA_ | apply bN_ | apply bD_))) hb); clear HB; have HB := n0_; clear n0_; (try clear hb)))
  go_ret2
  exact ⟨_, by first | rfl | (simp [*, errW_none, errW_some] <;> rfl), by first | exact Kd.R_nil _ _ _ _ _ | exact Kd.N_nil _ _ _ _ _ | exact Kd.V_nil _ _ _ _ _ | exact Kd.Q_nil _ _ _ _ _ | exact Kd.S_nil _ _ _ _ _, by repeat (first | (with_reducible first | exact HB.out | apply bA_ | apply bN_ | apply bD_))⟩
 subst c7
 have H1 : ((spec_l27State.f k l2).bind fun t103 => (if t103 = true then ((spec_l27Merge.f k l0 l1 l2).bind fun bt104 => (some (bt104.1, bt104.2))) else (some (([] : List (S63)), 1)))) = some (r1, r2) := by rw [if_pos rfl] at H; exact H
 clear H
 have H := H1
 clear H1
 replace H := Option.bind_eq_some_iff.mp H
 obtain ⟨t103, A80, H⟩ := H
 (try dsimp only at H)
 have A8 := Aside0.mk A80
 clear A80
 have HC9 := Aside0.mk H
 clear H
 go_enter Try.func16, Try.ntmps16
 go_upto_if 20 with (first | ((with_reducible refine gate_callee (f := 36) rfl ?_); refine goesL_ (some 9) rfl rfl Try.func36 (by kernel_rfl) rfl #[.slice A0 l0.length c0] rfl (by first | rfl | (simp only [List.map_toArray, List.map_cons, List.map_nil]; first | done | rfl)) ?_; (with_reducible refine (spec_l27State.calls k _ _ l0 true _ ?side1 ?side2 A4.out).mono ?_); (case side1 => repeat (first | exact HR0.out | (with_reducible first | refine Kd.C_alloc ?_ _ | refine Kd.C_drewN ?_ _ | refine Kd.C_drew ?_))); (case side2 => exact HC0.out); rintro e w10 ⟨rfl, hb⟩; refine ⟨_, rfl, ?_⟩; have n0_ := Aside0.mk (below_step (by repeat (first | (with_reducible first | exact HB.out | apply bA_ | apply bN_ | apply bD_))) hb); clear HB; have HB := n0_; clear n0_; (try clear hb)) | (go_at_call 36; (with_reducible refine (spec_l27State.calls k _ _ l1 true _ ?side1 ?side2 A6.out).mono ?_); (case side1 => repeat (first | exact (Kd.C_below HR1.out HB.out) | (with_reducible first | refine Kd.C_alloc ?_ _ | refine Kd.C_drewN ?_ _ | refine Kd.C_drew ?_))); (case side2 => exact HC1.out); rintro e w11 ⟨rfl, hb⟩; have n0_ := Aside0.mk (below_step (by repeat (first | (with_reducible first | exact HB.out | apply bA_ | apply bN_ | apply bD_))) hb); clear HB; have HB := n0_; clear n0_; (try clear hb)) | (go_at_call 36; (with_reducible refine (spec_l27State.calls k _ _ l2 t103 _ ?side1 ?side2 A8.out).mono ?_); (case side1 => repeat (first | exact (Kd.C_below HR2.out HB.out) | (with_reducible first | refine Kd.C_alloc ?_ _ | refine Kd.C_drewN ?_ _ | refine Kd.C_drew ?_))); (case side2 => exact HC2.out); rintro e w12 ⟨rfl, hb⟩; have n0_ := Aside0.mk (below_step (by repeat (first | (with_reducible first | exact HB.out | apply bA_ | apply bN_ | apply bD_))) hb); clear HB; have HB := n0_; clear n0_; (try clear hb)))
 (try simp only [Act.put, List.setIfInBounds_toArray, List.set_cons_zero, List.set_cons_succ])
 have H := HC9.out
 clear HC9
 by_cases c13 : t103 = true
 rotate_left
 ·replace c13 := Bool.eq_false_iff.mpr c13
  subst c13
  have H1 : (some (([] : List (S63)), 1)) = some (r1, r2) := by rw [if_neg (show ¬ (false = true) by decide)] at H; exact H
  clear H
  have H := H1
  clear H1
  simp only [Option.some.injEq, Prod.mk.injEq] at H
  obtain ⟨rfl, rfl⟩ := H
  go_wp2
  go_ret2
  exact ⟨_, by first | rfl | (simp [*, errW_none, errW_some] <;> rfl), by first | exact Kd.R_nil _ _ _ _ _ | exact Kd.N_nil _ _ _ _ _ | exact Kd.V_nil _ _ _ _ _ | exact Kd.Q_nil _ _ _ _ _ | exact Kd.S_nil _ _ _ _ _, by repeat (first | (with_reducible first | exact HB.out | apply bA_ | apply bN_ | apply bD_))⟩
 subst c13
 have H1 : ((spec_l27Merge.f k l0 l1 l2).bind fun bt104 => (some (bt104.1, bt104.2))) = some (r1, r2) := by rw [if_pos rfl] at H; exact H
 clear H
 have H := H1
 clear H1
 replace H := Option.bind_eq_some_iff.mp H
 obtain ⟨⟨t104, t105⟩, A140, H⟩ := H
 (try dsimp only at H)
 have A14 := Aside0.mk A140
 clear A140
 simp only [Option.some.injEq, Prod.mk.injEq] at H
 obtain ⟨rfl, rfl⟩ := H
 go_wp2_with (first | ((with_reducible refine gate_callee (f := 44) rfl ?_); refine goesL_ (some 24) rfl rfl Try.func44 (by kernel_rfl) rfl #[.slice A0 l0.length c0, .slice A1 l1.length c1, .slice A2 l2.length c2] rfl (by first | rfl | (simp only [List.map_toArray, List.map_cons, List.map_nil]; first | done | rfl)) ?_; (with_reducible refine (spec_l27Merge.calls k _ _ l0 _ _ l1 _ _ l2 t104 t105 _ ?side1 ?side2 ?side3 ?side4 ?side5 ?side6 A14.out).mono ?_); (case side1 => repeat (first | exact (Kd.C_below HR0.out (by repeat (first | (with_reducible first | exact HB.out | apply bA_ | apply bN_ | apply bD_)))) | (with_reducible first | refine Kd.C_alloc ?_ _ | refine Kd.C_drewN ?_ _ | refine Kd.C_drew ?_))); (case side2 => exact HC0.out); (case side3 => repeat (first | exact (Kd.C_below HR1.out (by repeat (first | (with_reducible first | exact HB.out | apply bA_ | apply bN_ | apply bD_)))) | (with_reducible first | refine Kd.C_alloc ?_ _ | refine Kd.C_drewN ?_ _ | refine Kd.C_drew ?_))); (case side4 => exact HC1.out); (case side5 => repeat (first | exact (Kd.C_below HR2.out (by repeat (first | (with_reducible first | exact HB.out | apply bA_ | apply bN_ | apply bD_)))) | (with_reducible first | refine Kd.C_alloc ?_ _ | refine Kd.C_drewN ?_ _ | refine Kd.C_drew ?_))); (case side6 => exact HC2.out); rintro e w15 ⟨v106, rfl, ho0, hb⟩; refine ⟨_, rfl, ?_⟩; have n0_ := Aside0.mk (Kd.R_lower ho0 (below_size (by repeat (first | (with_reducible first | exact HB.out | apply bA_ | apply bN_ | apply bD_))))); have n1_ := Aside0.mk (below_step (by repeat (first | (with_reducible first | exact HB.out | apply bA_ | apply bN_ | apply bD_))) hb); clear HB; have HO107 := n0_; have HB := n1_; clear n0_ n1_; (try clear hb); (try clear ho0)))
 go_ret2
 exact ⟨_, by first | rfl | (simp [*, errW_none, errW_some] <;> rfl), by (with_reducible repeat (first | apply Kd.R_alloc | apply Kd.R_drewN | apply Kd.R_drew)); exact HO107.out, by repeat (first | (with_reducible first | exact HB.out | apply bA_ | apply bN_ | apply bD_))⟩
end Go.Proofs.Ytiheginanghhjaa.Q
namespace Go.Proofs.Ytiheginanghhjaa.Q
open Go.RowKit Go.Proofs.YtiheginanghhjaaW.PrintWords Go.Proofs.YtiheginanghhjaaW.PrintLast Go.Proofs.YtiheginanghhjaaW.PrintMore
theorem ep_ev (a0 a1 : ByteArray) (a2 a3 : Int) (b : ByteArray) : impl_entryPlace_1.f a0 a1 a2 a3 b = some (Go.Lib.compareBytes a0.data.toList b.data.toList) := by
 unfold impl_entryPlace_1.f strings_Compare.f
 rfl
theorem keyE_iff (x : Ent) (u : ByteArray) : Go.Lib.compareBytes (fcE x) u.data.toList = 0 ↔ x.f0.toList = u.toList := by
 rw [cb_ord.zero]
 simp only [fcE, Go.ByteArray.toList_eq]
theorem bsE_ev (l : List Ent) (hl : (l.length : Int) ≤ 1048576) (u : ByteArray) (hr : Rsg (fun x => Go.Lib.compareBytes (fcE x) u.data.toList) l) :
  Ev (fun k => impl_Entry_string.f k l u) (((plc (fun x => Go.Lib.compareBytes (fcE x) u.data.toList) l : Nat) : Int), fnd (fun x => Go.Lib.compareBytes (fcE x) u.data.toList) l) := by
 have hp0 := plc_le (fun x => Go.Lib.compareBytes (fcE x) u.data.toList) l
 have go : ∀ (d i j : Nat), j = i + d → i ≤ plc (fun x => Go.Lib.compareBytes (fcE x) u.data.toList) l → plc (fun x => Go.Lib.compareBytes (fcE x) u.data.toList) l ≤ j → j ≤ l.length → Ev (fun k => impl_Entry_string.l0 k l u (l.length : Int) i j) (((plc (fun x => Go.Lib.compareBytes (fcE x) u.data.toList) l : Nat) : Int), fnd (fun x => Go.Lib.compareBytes (fcE x) u.data.toList) l) := by
  intro d
  induction d using Nat.strongRecOn with
  | _ d ih =>
  intro i j h1 h2 h3 h4
  refine Ev_suc ?_
  simp only [impl_Entry_string.l0]
  by_cases hd : d = 0
  rotate_left
  ·refine Ev_t (by omega) ?_
   rw [mid_ev i j (by omega)]
   obtain ⟨m, hm⟩ : ∃ m, m = (i + j) / 2 := ⟨_, rfl⟩
   rw [← hm]
   have hm1 : m < l.length := by omega
   refine Ev_t (by omega) (Ev_t (by omega) ?_)
   rw [rdi_Entry l m hm1, ep_ev]
   refine Ev_s ?_
   by_cases hc : Go.Lib.compareBytes l[m].f0.data.toList u.data.toList < 0
   rotate_left
   ·refine Ev_f hc ?_
    refine ih (m - i) (by omega) i m (by omega) h2 ?_ (by omega)
    rcases Nat.lt_or_ge m (plc (fun x => Go.Lib.compareBytes (fcE x) u.data.toList) l) with g | g
    ·exact absurd (plc_lt _ l m hm1 g) hc
    ·exact g
   refine Ev_t hc ?_
   rw [wr64s m (by omega)]
   refine ih (j - (m + 1)) (by omega) (m + 1) j (by omega) ?_ h3 h4
   rcases Nat.lt_or_ge m (plc (fun x => Go.Lib.compareBytes (fcE x) u.data.toList) l) with g | g
   ·exact g
   ·rcases Nat.lt_or_eq_of_le g with g | g
    ·have hgt : 0 < Go.Lib.compareBytes (fcE l[m]) u.data.toList := hr.gt m hm1 g
     have hc' : Go.Lib.compareBytes (fcE l[m]) u.data.toList < 0 := hc
     omega
    ·have := plc_at (fun x => Go.Lib.compareBytes (fcE x) u.data.toList) l (by omega)
     simp only [g] at this
     have hc' : Go.Lib.compareBytes (fcE l[m]) u.data.toList < 0 := hc
     omega
  refine Ev_f (by omega) ?_
  have hp : plc (fun x => Go.Lib.compareBytes (fcE x) u.data.toList) l = i := by omega
  by_cases hn : i < l.length
  rotate_left
  ·refine Ev_f (by omega) (Ev_n ?_)
   unfold fnd
   rw [dif_neg (by omega), hp]
  refine Ev_t (by omega) (Ev_t (by omega) (Ev_t (by omega) ?_))
  rw [rdi_Entry l i hn, ep_ev]
  refine Ev_s (Ev_n ?_)
  unfold fnd
  rw [dif_pos (by omega)]
  simp only [hp]
  rfl
 simp only [impl_Entry_string.f]
 exact go l.length 0 l.length (by omega) (by omega) hp0 (Nat.le_refl _)
theorem findE_ev (l : List Ent) (hl : (l.length : Int) ≤ 1048576) (u : ByteArray) (hr : Rsg (fun x => Go.Lib.compareBytes (fcE x) u.data.toList) l) :
  Ev (fun k => spec_l27At.f k l u) (if fnd (fun x => Go.Lib.compareBytes (fcE x) u.data.toList) l = true then ((plc (fun x => Go.Lib.compareBytes (fcE x) u.data.toList) l : Nat) : Int) else -1) := by
 obtain ⟨c, hc⟩ : ∃ c, c = (fun x => Go.Lib.compareBytes (fcE x) u.data.toList) := ⟨_, rfl⟩
 rw [← hc] at hr ⊢
 have key : ∀ x, c x = 0 ↔ x.f0.toList = u.toList := fun x => by rw [hc]; exact keyE_iff x u
 have go : ∀ (d i : Nat), i + d = l.length → (∀ (j : Nat) (hj : j < l.length), j < i → c l[j] ≠ 0) → Ev (fun k => spec_l27At.l0 k l u i) (if fnd c l = true then ((plc c l : Nat) : Int) else -1) := by
  intro d
  induction d with
  | zero =>
   intro i h1 h2
   refine Ev_suc ?_
   simp only [spec_l27At.l0]
   refine Ev_f (by omega) (Ev_n ?_)
   rw [if_neg]
   intro h
   obtain ⟨hp, h0⟩ := fnd_t h
   exact h2 _ hp (by omega) h0
  | succ d ih =>
   intro i h1 h2
   refine Ev_suc ?_
   simp only [spec_l27At.l0]
   refine Ev_t (by omega) (Ev_t (by omega) ?_)
   rw [rdi_Entry l i (by omega), wr64s i (by omega)]
   have more : c l[i] ≠ 0 → Ev (fun k => spec_l27At.l0 k l u ((i + 1 : Nat) : Int)) (if fnd c l = true then ((plc c l : Nat) : Int) else -1) := fun hn =>
    ih (i + 1) (by omega) (fun j hj hji => by
     rcases Nat.lt_or_eq_of_le (Nat.le_of_lt_succ hji) with g | g
     ·exact h2 j hj g
     ·subst g; exact hn)
   by_cases e0 : l[i].f0.toList = u.toList
   rotate_left
   ·exact Ev_f e0 (more (fun h => e0 ((key _).1 h)))
   refine Ev_t e0 (Ev_n ?_)
   have hz := (key l[i]).2 e0
   have hp : plc c l = i := by
    rcases Nat.lt_trichotomy i (plc c l) with g | g | g
    ·have := plc_lt c l i (by omega) g; omega
    ·exact g.symm
    ·have := hr.gt i (by omega) g; omega
   have hf : fnd c l = true := by
    unfold fnd
    rw [dif_pos (by omega)]
    simp only [hp, hz, decide_true]
   rw [if_pos hf, hp]
 simp only [spec_l27At.f]
 exact go l.length 0 (by omega) (fun j _ hj => by omega)
theorem placeE_ev (l : List Ent) (hl : (l.length : Int) ≤ 1048576) (u : ByteArray) (hr : Rsg (fun x => Go.Lib.compareBytes (fcE x) u.data.toList) l) :
  Ev (fun k => impl_entryPlace.f k l u) (((plc (fun x => Go.Lib.compareBytes (fcE x) u.data.toList) l : Nat) : Int), fnd (fun x => Go.Lib.compareBytes (fcE x) u.data.toList) l) := by
 simp only [impl_entryPlace.f]
 exact Ev_b (bsE_ev l hl u hr) (Ev_n rfl)
theorem Sta.rsg {m : List Ent} (h : Sta m) (t : List UInt8) : Rsg (fun x => Go.Lib.compareBytes (fcE x) t) m := rsg_of cb_ord fcE h.2.1 t
theorem ven_ne {l : List UInt8} {a b : Int} (h : vVen l a b = true) : l ≠ [] := by
 intro e
 subst e
 simp [vVen, spi] at h
end Go.Proofs.Ytiheginanghhjaa.Q
namespace Go.Proofs.Ytiheginanghhjaa.Q
open Go.RowKit Go.Proofs.YtiheginanghhjaaW.PrintWords Go.Proofs.YtiheginanghhjaaW.PrintLast Go.Proofs.YtiheginanghhjaaW.PrintMore
section
variable {α κ : Type} {c : κ → κ → Int} {key : α → κ}
theorem rsgG (ho : Ordr c) {l : List α} (h : l.Pairwise (fun x y => c (key x) (key y) < 0)) (t : κ) : Rsg (fun x => c (key x) t) l := by
 intro i j hi hj h0
 exact ho.step ((List.pairwise_iff_getElem.1 h) i j (by omega) hj hi) h0
def putG (c : κ → κ → Int) (key : α → κ) (l : List α) (b : α) : List α :=
 if fnd (fun x => c (key x) (key b)) l = true then l.take (plc (fun x => c (key x) (key b)) l) ++ b :: l.drop (plc (fun x => c (key x) (key b)) l + 1)
 else l.take (plc (fun x => c (key x) (key b)) l) ++ b :: l.drop (plc (fun x => c (key x) (key b)) l)
theorem aheadG {l : List α} {t : κ} {x : α} (h : x ∈ l.take (plc (fun x => c (key x) t) l)) : c (key x) t < 0 := by
 obtain ⟨i, hi, rfl⟩ := List.mem_iff_getElem.1 h
 rw [List.getElem_take]
 exact plc_lt (fun x => c (key x) t) l i (by simp at hi; omega) (by simp at hi; omega)
theorem behindG {l : List α} {t : κ} (hr : Rsg (fun x => c (key x) t) l) {x : α} (h : x ∈ l.drop (plc (fun x => c (key x) t) l + 1)) : 0 < c (key x) t := by
 obtain ⟨i, hi, rfl⟩ := List.mem_iff_getElem.1 h
 rw [List.getElem_drop]
 exact hr.gt _ (by simp at hi; omega) (by omega)
theorem putG_pw (ho : Ordr c) {l : List α} (h : l.Pairwise (fun x y => c (key x) (key y) < 0)) (b : α) : (putG c key l b).Pairwise (fun x y => c (key x) (key y) < 0) := by
 have hr := rsgG ho h (key b)
 have hp := plc_le (fun x => c (key x) (key b)) l
 have key' : ∀ q, (∀ x ∈ l.drop q, 0 < c (key x) (key b)) → plc (fun x => c (key x) (key b)) l ≤ q → (l.take (plc (fun x => c (key x) (key b)) l) ++ b :: l.drop q).Pairwise (fun x y => c (key x) (key y) < 0) := by
  intro q hq hle
  rw [List.pairwise_append]
  refine ⟨h.sublist (List.take_sublist _ _), ?_, ?_⟩
  ·rw [List.pairwise_cons]
   exact ⟨fun y hy => (ho.anti _ _).2 (hq y hy), h.sublist (List.drop_sublist _ _)⟩
  ·intro x hx y hy
   have hx0 := aheadG hx
   rcases List.mem_cons.1 hy with e | e
   ·subst e; exact hx0
   ·exact ho.trans _ _ _ hx0 ((ho.anti _ _).2 (hq y e))
 unfold putG
 split
 ·exact key' _ (fun x hx => behindG hr hx) (by omega)
 ·rename_i hf
  refine key' _ (fun x hx => ?_) (Nat.le_refl _)
  obtain ⟨i, hi, rfl⟩ := List.mem_iff_getElem.1 hx
  rw [List.getElem_drop]
  simp at hi
  have hn := fnd_f hr (by simpa using hf) (plc (fun x => c (key x) (key b)) l + i) (by omega)
  rcases Nat.eq_zero_or_pos i with g | g
  ·subst g
   have := plc_at (fun x => c (key x) (key b)) l (by omega)
   simp only [Nat.add_zero] at hn ⊢
   omega
  ·exact hr.gt _ (by omega) (by omega)
theorem putG_len (l : List α) (b : α) : (putG c key l b).length ≤ l.length + 1 ∧ (fnd (fun x => c (key x) (key b)) l = true → (putG c key l b).length = l.length) ∧ (fnd (fun x => c (key x) (key b)) l = false → (putG c key l b).length = l.length + 1) := by
 have hp := plc_le (fun x => c (key x) (key b)) l
 unfold putG
 cases hf : fnd (fun x => c (key x) (key b)) l with
 | true =>
  obtain ⟨h1, _⟩ := fnd_t hf
  simp
  omega
 | false =>
  simp
  omega
end
end Go.Proofs.Ytiheginanghhjaa.Q
namespace Go.Proofs.Ytiheginanghhjaa.Q
open Go.RowKit Go.Proofs.YtiheginanghhjaaW.PrintWords Go.Proofs.YtiheginanghhjaaW.PrintLast Go.Proofs.YtiheginanghhjaaW.PrintMore
abbrev risE (l : List Ent) : Prop := l.Pairwise (fun x y => Go.Lib.compareBytes (fcE x) (fcE y) < 0)
abbrev putE (l : List Ent) (b : Ent) : List Ent := putG Go.Lib.compareBytes fcE l b
theorem setE_ev (l : List Ent) (hl : (l.length : Int) ≤ 1048576) (b : Ent) (hr : Rsg (fun x => Go.Lib.compareBytes (fcE x) (fcE b)) l) : Ev (fun k => spec_l27Set.f k l b.f0 b.f1.f0 b.f1.f1 b.f1.f2) (putE l b) := by
 obtain ⟨c, hc⟩ : ∃ c, c = (fun x => Go.Lib.compareBytes (fcE x) (fcE b)) := ⟨_, rfl⟩
 unfold putE putG
 rw [← hc] at hr ⊢
 have key : ∀ x, c x = 0 ↔ x.f0.toList = b.f0.toList := fun x => by rw [hc]; exact keyE_iff x b.f0
 have cEq : ∀ y : Ent, Op.bytesLess y.f0.toList b.f0.toList = decide (c y < 0) := fun y => by
  rw [hc]
  have := less_iff y.f0.toList b.f0.toList
  simp only [fcE, Go.ByteArray.toList_eq] at this ⊢
  cases hb : Op.bytesLess y.f0.data.toList b.f0.data.toList with
  | true => exact (decide_eq_true (this.1 hb)).symm
  | false => exact (decide_eq_false (fun h => by rw [this.2 h] at hb; cases hb)).symm
 have hb : ∀ y : Ent, (⟨y.f0, (⟨y.f1.f0, y.f1.f1, y.f1.f2⟩ : S61)⟩ : Ent) = y := fun y => rfl
 have two : ∀ (d i : Nat) (out : List Ent), i + d = l.length → plc c l < i → out.length ≤ i + 1 → Ev (fun k => spec_l27Set.l0 k l out true i b.f0 b.f1.f0 b.f1.f1 b.f1.f2) (out ++ l.drop i) := by
  intro d
  induction d with
  | zero =>
   intro i out h1 h2 h3
   refine Ev_suc ?_
   simp only [spec_l27Set.l0]
   rw [List.drop_of_length_le (by omega), List.append_nil]
   exact Ev_f (by omega) (Ev_t (by first | exact True.intro | rfl) (Ev_n rfl))
  | succ d ih =>
   intro i out h1 h2 h3
   refine Ev_suc ?_
   simp only [spec_l27Set.l0]
   refine Ev_t (by omega) (Ev_t (by first | exact True.intro | rfl) (Ev_suc ?_))
   simp only [spec_l27Set.j1]
   refine Ev_f (by decide) (Ev_t (by omega) (Ev_t (by omega) ?_))
   rw [rdi_Entry l i (by omega), wr64s i (by omega), List.drop_eq_getElem_cons (show i < l.length by omega), hb]
   have hn : c l[i] ≠ 0 := by have := hr.gt i (by omega) h2; omega
   have nxt := ih (i + 1) (out ++ [l[i]]) (by omega) (by omega) (by simp; omega)
   rw [List.append_assoc, List.singleton_append] at nxt
   exact Ev_f (fun e0 => hn ((key _).2 e0)) (Ev_t (by omega) nxt)
 have one : ∀ (d i : Nat), i + d = plc c l → Ev (fun k => spec_l27Set.l0 k l (l.take i) false i b.f0 b.f1.f0 b.f1.f1 b.f1.f2) (if fnd c l = true then l.take (plc c l) ++ b :: l.drop (plc c l + 1) else l.take (plc c l) ++ b :: l.drop (plc c l)) := by
  have hp0 := plc_le c l
  intro d
  induction d with
  | zero =>
   intro i h1
   have h1' : i = plc c l := by omega
   subst h1'
   refine Ev_suc ?_
   simp only [spec_l27Set.l0]
   have hlen : (l.take (plc c l)).length = plc c l := by simp; omega
   by_cases hn : plc c l < l.length
   rotate_left
   ·have hf : ¬ fnd c l = true := by unfold fnd; rw [dif_neg hn]; decide
    rw [if_neg hf, List.drop_of_length_le (by omega)]
    exact Ev_f (by omega) (Ev_f (by decide) (Ev_t (by omega) (Ev_n rfl)))
   refine Ev_t (by omega) (Ev_f (by decide) (Ev_t (by omega) (Ev_suc ?_)))
   rw [rdi_Entry l _ hn, cEq]
   have h0 := plc_at c l hn
   simp only [spec_l27Set.j1]
   refine Ev_t (by simpa using h0) (Ev_t (by omega) (Ev_s (Ev_t (by omega) (Ev_t (by omega) ?_))))
   rw [rdi_Entry l _ hn, hb, hb, wr64s _ (by omega)]
   have more : ∀ out : List Ent, out.length ≤ plc c l + 2 → Ev (fun k => spec_l27Set.l0 k l out true ((plc c l + 1 : Nat) : Int) b.f0 b.f1.f0 b.f1.f1 b.f1.f2) (out ++ l.drop (plc c l + 1)) := fun out ho =>
    two (l.length - (plc c l + 1)) (plc c l + 1) out (by omega) (by omega) ho
   by_cases hz : c l[plc c l] = 0
   rotate_left
   ·have hf : ¬ fnd c l = true := by unfold fnd; rw [dif_pos hn]; simpa using hz
    rw [if_neg hf]
    refine Ev_f (fun e0 => hz ((key _).2 e0)) (Ev_t (by simp; omega) ?_)
    refine Ev_at (more (l.take (plc c l) ++ [b] ++ [l[plc c l]]) (by simp; omega)) ?_
    rw [List.append_assoc, List.append_assoc, List.singleton_append, List.singleton_append, List.getElem_cons_drop]
   have hf : fnd c l = true := by unfold fnd; rw [dif_pos hn]; simpa using hz
   rw [if_pos hf]
   refine Ev_t ((key _).1 hz) ?_
   refine Ev_at (more _ (by simp; omega)) ?_
   rw [List.append_assoc, List.singleton_append]
  | succ d ih =>
   intro i h1
   have hi : i < l.length := by omega
   have hlen : (l.take i).length = i := by simp; omega
   refine Ev_suc ?_
   simp only [spec_l27Set.l0]
   refine Ev_t (by omega) (Ev_f (by decide) (Ev_t (by omega) (Ev_suc ?_)))
   rw [rdi_Entry l i hi, cEq]
   have h0 := plc_lt c l i hi (by omega)
   simp only [spec_l27Set.j1]
   refine Ev_f (by simpa using h0) (Ev_t (by omega) (Ev_t (by omega) ?_))
   rw [rdi_Entry l i hi, hb, wr64s i (by omega)]
   have nxt := ih (i + 1) (by omega)
   rw [List.take_succ_eq_append_getElem hi] at nxt
   exact Ev_f (fun e0 => by have := (key _).2 e0; omega) (Ev_t (by omega) nxt)
 simp only [spec_l27Set.f]
 exact one (plc c l) 0 (by omega)
end Go.Proofs.Ytiheginanghhjaa.Q
namespace Go.Proofs.Ytiheginanghhjaa.Q
open Go.RowKit Go.Proofs.YtiheginanghhjaaW.PrintWords Go.Proofs.YtiheginanghhjaaW.PrintLast Go.Proofs.YtiheginanghhjaaW.PrintMore
theorem fs_lt : ∀ a b : List UInt8, a < b ↔ Go.Lib.compareBytes a b < 0
 | [], [] => by simp [Go.Lib.compareBytes]
 | [], _ :: _ => by simp [Go.Lib.compareBytes]
 | _ :: _, [] => by simp [Go.Lib.compareBytes]
 | x :: a, y :: b => by
  have ih := fs_lt a b
  rw [List.cons_lt_cons_iff]
  simp only [Go.Lib.compareBytes]
  by_cases h1 : x < y
  rotate_left
  ·by_cases h2 : y < x
   rotate_left
   ·have : x = y := UInt8.le_antisymm (UInt8.not_lt.1 h2) (UInt8.not_lt.1 h1)
    subst this
    simp [h1, ih]
   have : x ≠ y := fun e => by subst e; exact h1 h2
   simp [h1, h2, this]
  simp [h1]
theorem fs_le (l : List (List UInt8)) : (l.mergeSort fun x y => decide (x ≤ y)).Pairwise (fun x y => x ≤ y) := by
 have := List.pairwise_mergeSort (le := fun x y : List UInt8 => decide (x ≤ y)) (fun a b c h1 h2 => by simp only [decide_eq_true_eq] at *; exact List.le_trans h1 h2) (fun a b => by simp only [Bool.or_eq_true, decide_eq_true_eq]; exact List.le_total a b) l
 exact this.imp (fun h => by simpa using h)
theorem fs_pw (zs : List (List UInt8)) (h : zs.Pairwise (fun x y => x ≤ y)) : (Go.Lib.compact zs).Pairwise (fun x y => x < y) := by
 unfold Go.Lib.compact Go.Lib.compactUpTo
 rw [List.pairwise_map]
 refine List.Pairwise.imp_of_mem (R := fun i j => i < j) (fun {i j} hi hj hij => ?_) ((List.pairwise_lt_range (n := zs.length)).sublist List.filter_sublist)
 obtain ⟨hj1, hj2⟩ := List.mem_filter.1 hj
 have hj1 := List.mem_range.1 hj1
 simp only [Go.Lib.keeps, decide_eq_true_eq] at hj2
 have g := List.pairwise_iff_getElem.1 h
 have e : ∀ q (hq : q < zs.length), zs.toArray[q]! = zs[q] := fun q hq => by simp [getElem!_pos, hq]
 rw [e j hj1, e (j - 1) (by omega)] at hj2
 rw [e j hj1, e i (by omega)]
 have h2 : zs[j - 1] < zs[j] := by
  have l1 := g (j - 1) j (by omega) hj1 (by omega)
  have ne : zs[j - 1] ≠ zs[j] := fun q => by rcases hj2 with r | r; omega; exact r q.symm
  exact Decidable.byContradiction fun hn => ne (List.le_antisymm l1 hn)
 by_cases hij2 : i = j - 1
 rotate_left
 ·exact Decidable.byContradiction fun hn => absurd (List.le_trans (List.not_lt.1 hn) (g i (j - 1) (by omega) (by omega) (by omega))) (fun hle => hle h2)
 subst hij2; exact h2
theorem fs_mem (zs : List (List UInt8)) (x : List UInt8) : x ∈ Go.Lib.compact zs ↔ x ∈ zs := by
 unfold Go.Lib.compact Go.Lib.compactUpTo
 have e : ∀ q (hq : q < zs.length), zs.toArray[q]! = zs[q] := fun q hq => by simp [getElem!_pos, hq]
 constructor
 ·intro h
  obtain ⟨j, hj, rfl⟩ := List.mem_map.1 h
  have := List.mem_range.1 (List.mem_filter.1 hj).1
  rw [e j this]
  exact List.getElem_mem _
 ·intro h
  obtain ⟨j, hj, rfl⟩ := List.mem_iff_getElem.1 h
  clear h
  induction j with
  | zero => exact List.mem_map.2 ⟨0, List.mem_filter.2 ⟨List.mem_range.2 hj, by simp [Go.Lib.keeps]⟩, e 0 hj⟩
  | succ j ih =>
   by_cases hk : Go.Lib.keeps zs.toArray (j + 1) = true
   rotate_left
   ·have : zs[j + 1] = zs[j] := by
     have h3 := hk
     simp only [Go.Lib.keeps, decide_eq_true_eq] at h3
     rw [e _ hj, e (j + 1 - 1) (by omega)] at h3
     have := fun q => h3 (.inr q)
     simpa using this
    rw [this]
    exact ih (by omega)
   exact List.mem_map.2 ⟨j + 1, List.mem_filter.2 ⟨List.mem_range.2 hj, hk⟩, e _ hj⟩
theorem fs_uniq : ∀ (a b : List (List UInt8)), a.Pairwise (fun x y => x < y) → b.Pairwise (fun x y => x < y) → (∀ x, x ∈ a ↔ x ∈ b) → a = b
 | [], [], _, _, _ => rfl
 | [], y :: b, _, _, h => by have := (h y).2 (by simp); simp at this
 | x :: a, [], _, _, h => by have := (h x).1 (by simp); simp at this
 | x :: a, y :: b, ha, hb, h => by
  rw [List.pairwise_cons] at ha hb
  have irr : ∀ z : List UInt8, ¬ z < z := fun z => List.lt_irrefl z
  have tr : ∀ p q r : List UInt8, p < q → q < r → p < r := fun p q r => List.lt_trans
  have e : x = y := by
   rcases List.mem_cons.1 ((h x).1 (by simp)) with q | q
   ·exact q
   ·rcases List.mem_cons.1 ((h y).2 (by simp)) with r | r
    ·exact r.symm
    ·exact absurd (tr _ _ _ (ha.1 y r) (hb.1 x q)) (irr _)
  subst e
  rw [fs_uniq a b ha.2 hb.2 (fun z => ?_)]
  constructor
  ·intro hz
   rcases List.mem_cons.1 ((h z).1 (by simp [hz])) with q | q
   ·subst q; exact absurd (ha.1 z hz) (irr _)
   ·exact q
  ·intro hz
   rcases List.mem_cons.1 ((h z).2 (by simp [hz])) with q | q
   ·subst q; exact absurd (hb.1 z hz) (irr _)
   ·exact q
abbrev bL (u : ByteArray) : List UInt8 := u.data.toList
theorem bL_inj {u v : ByteArray} (h : bL u = bL v) : u = v := by
 cases u with | mk a => cases v with | mk b => cases a; cases b; simp only [bL] at h; subst h; rfl
theorem map_bL_inj : ∀ {a b : List ByteArray}, a.map bL = b.map bL → a = b
 | [], [], _ => rfl
 | [], _ :: _, h => by simp at h
 | _ :: _, [], h => by simp at h
 | x :: a, y :: b, h => by
  simp only [List.map_cons, List.cons.injEq] at h
  rw [bL_inj h.1, map_bL_inj h.2]
def fcs (l : List ByteArray) : List ByteArray := slices_Compact_string_string.cmp (slices_Sort_string_string.srt l)
theorem fcs_map (l : List ByteArray) : (fcs l).map bL = Go.Lib.compact ((l.map bL).mergeSort fun x y => decide (x ≤ y)) := by
 have h1 : ∀ q : List (List UInt8), (q.map fun b => (⟨b.toArray⟩ : ByteArray)).map bL = q := fun q => by
  rw [List.map_map]; simp [bL, Function.comp_def]
 have h2 : (slices_Sort_string_string.srt l).map bL = (l.map bL).mergeSort fun x y => decide (x ≤ y) := h1 _
 have h3 : (fcs l).map bL = Go.Lib.compact ((slices_Sort_string_string.srt l).map bL) := h1 _
 rw [h3, h2]
theorem fcs_pw (l : List ByteArray) : ((fcs l).map bL).Pairwise (fun x y => x < y) := by
 rw [fcs_map]
 exact fs_pw _ (fs_le _)
theorem fcs_memb (l : List ByteArray) (x : List UInt8) : x ∈ (fcs l).map bL ↔ x ∈ l.map bL := by
 rw [fcs_map, fs_mem, List.mem_mergeSort]
theorem fcs_len (l : List ByteArray) : (fcs l).length ≤ l.length := by
 have h1 : (fcs l).length = ((fcs l).map bL).length := by simp
 rw [h1, fcs_map]
 unfold Go.Lib.compact Go.Lib.compactUpTo
 rw [List.length_map]
 exact Nat.le_trans (List.length_filter_le _ _) (by simp)
theorem faces_ev (L : List (List Ent)) (hL : L.length ≤ 3) (hs : ∀ s ∈ L, s.length ≤ 24) : Ev (fun k => impl_facesOf.f k L) (fcs (L.flatten.map (·.f0))) := by
 have inner : ∀ (i : Nat) (s : List Ent) (r : List ByteArray), s.length ≤ 24 → i < 3 → ∀ (d j : Nat) (out : List ByteArray), j + d = s.length → out.length ≤ 1000 + j → Ev (fun k => impl_facesOf.l0 k (out ++ (s.drop j).map (·.f0)) L (L.length : Int) ((i + 1 : Nat) : Int)) r → Ev (fun k => impl_facesOf.l1 k out L (L.length : Int) i s (s.length : Int) j) r := by
  intro i s r hs hi d
  induction d with
  | zero =>
   intro j out h1 h2 h3
   refine Ev_suc ?_
   simp only [impl_facesOf.l1]
   rw [List.drop_of_length_le (by omega)] at h3
   simp only [List.map_nil, List.append_nil] at h3
   rw [wr64s i (by omega)]
   exact Ev_f (by omega) h3
  | succ d ih =>
   intro j out h1 h2 h3
   refine Ev_suc ?_
   simp only [impl_facesOf.l1]
   rw [wr64s j (by omega), rdi_Entry s j (by omega)]
   refine Ev_t (by omega) (Ev_t (by omega) (Ev_t (by omega) (Ev_t (by omega) (ih (j + 1) _ (by omega) (by simp; omega) ?_))))
   rw [List.drop_eq_getElem_cons (show j < s.length by omega), List.map_cons] at h3
   rw [List.append_assoc, List.singleton_append]
   exact h3
 have outer : ∀ (d i : Nat) (out : List ByteArray), i + d = L.length → out.length ≤ 24 * i → Ev (fun k => impl_facesOf.l0 k out L (L.length : Int) i) (fcs (out ++ (L.drop i).flatten.map (·.f0))) := by
  intro d
  induction d with
  | zero =>
   intro i out h1 h2
   refine Ev_suc ?_
   simp only [impl_facesOf.l0]
   rw [List.drop_of_length_le (by omega)]
   simp only [List.flatten_nil, List.map_nil, List.append_nil]
   have hl : (slices_Sort_string_string.srt out).length = out.length := by simp [slices_Sort_string_string.srt]
   refine Ev_f (by omega) (Ev_b (a := slices_Sort_string_string.srt out) (Ev_c ?_) (Ev_b (a := fcs out) (Ev_c ?_) (Ev_n rfl)))
   ·unfold slices_Sort_string_string.f; rw [if_pos (by omega)]
   ·unfold slices_Compact_string_string.f; rw [if_pos (by omega)]; rfl
  | succ d ih =>
   intro i out h1 h2
   refine Ev_suc ?_
   simp only [impl_facesOf.l0]
   have hi : i < L.length := by omega
   have hr : rd_L7 L (i : Int) = L[i] := getD_in L _ i hi
   have h24 := hs L[i] (List.getElem_mem _)
   rw [hr]
   refine Ev_t (by omega) (Ev_t (by omega) (Ev_t (by omega) (inner i L[i] _ h24 (by omega) L[i].length 0 out (by omega) (by omega) ?_)))
   rw [List.drop_zero]
   have := ih (i + 1) (out ++ L[i].map (·.f0)) (by omega) (by simp; omega)
   rw [List.append_assoc, ← List.map_append, ← List.flatten_cons, List.getElem_cons_drop] at this
   exact this
 simp only [impl_facesOf.f]
 exact outer L.length 0 [] (by omega) (by simp)
theorem putE_mem (l : List Ent) (b : Ent) (u : List UInt8) : u ∈ (putE l b).map fcE ↔ u = fcE b ∨ u ∈ l.map fcE := by
 obtain ⟨p, hp⟩ : ∃ p, p = plc (fun x => Go.Lib.compareBytes (fcE x) (fcE b)) l := ⟨_, rfl⟩
 unfold putE putG
 rw [← hp]
 split
 ·rename_i hf
  obtain ⟨h1, h2⟩ := fnd_t hf
  simp only [← hp] at h1 h2
  have h3 : fcE l[p] = fcE b := (cb_ord.zero _ _).1 h2
  have h4 : l.map fcE = (l.take p).map fcE ++ fcE b :: (l.drop (p + 1)).map fcE := by
   rw [← h3, ← List.map_cons, ← List.map_append, List.getElem_cons_drop, List.take_append_drop]
  rw [h4]
  simp only [List.map_append, List.map_cons, List.mem_append, List.mem_cons]
  constructor
  ·rintro (h | h | h)
   ·exact .inr (.inl h)
   ·exact .inl h
   ·exact .inr (.inr (.inr h))
  ·rintro (h | h | h | h)
   ·exact .inr (.inl h)
   ·exact .inl h
   ·exact .inr (.inl h)
   ·exact .inr (.inr h)
 ·have h4 : l.map fcE = (l.take p).map fcE ++ (l.drop p).map fcE := by rw [← List.map_append, List.take_append_drop]
  rw [h4]
  simp only [List.map_append, List.map_cons, List.mem_append, List.mem_cons]
  constructor
  ·rintro (h | h | h)
   ·exact .inr (.inl h)
   ·exact .inl h
   ·exact .inr (.inr h)
  ·rintro (h | h | h)
   ·exact .inr (.inl h)
   ·exact .inl h
   ·exact .inr (.inr h)
theorem fold_mem : ∀ (L acc : List Ent) (u : List UInt8), u ∈ (L.foldl putE acc).map fcE ↔ u ∈ acc.map fcE ∨ u ∈ L.map fcE
 | [], acc, u => by simp
 | b :: L, acc, u => by
  rw [List.foldl_cons, fold_mem L, putE_mem, List.map_cons, List.mem_cons]
  constructor
  ·rintro ((h | h) | h)
   ·exact .inr (.inl h)
   ·exact .inl h
   ·exact .inr (.inr h)
  ·rintro (h | h | h)
   ·exact .inl (.inr h)
   ·exact .inl (.inl h)
   ·exact .inr h
theorem fold_ris : ∀ (L acc : List Ent), risE acc → risE (L.foldl putE acc)
 | [], _, h => h
 | b :: L, acc, h => fold_ris L _ (putG_pw cb_ord h b)
theorem sfaces_ev (x y z : List Ent) (hx : x.length ≤ 24) (hy : y.length ≤ 24) (hz : z.length ≤ 24) : Ev (fun k => spec_l27Faces.f k x y z) (((x ++ y ++ z).foldl putE []).map (·.f0)) := by
 have last : ∀ (A : List Ent), A.length ≤ 1000 → ∀ (d i : Nat) (out : List ByteArray), i + d = A.length → out.length ≤ i → Ev (fun k => spec_l27Faces.l3 k A out i) (out ++ (A.drop i).map (·.f0)) := by
  intro A hA d
  induction d with
  | zero =>
   intro i out h1 h2
   refine Ev_suc ?_
   simp only [spec_l27Faces.l3]
   rw [List.drop_of_length_le (by omega), List.map_nil, List.append_nil]
   exact Ev_f (by omega) (Ev_n rfl)
  | succ d ih =>
   intro i out h1 h2
   refine Ev_suc ?_
   simp only [spec_l27Faces.l3]
   rw [wr64s i (by omega), rdi_Entry A i (by omega)]
   have := ih (i + 1) (out ++ [A[i].f0]) (by omega) (by simp; omega)
   rw [List.append_assoc, List.singleton_append, ← List.map_cons, List.getElem_cons_drop] at this
   exact Ev_t (by omega) (Ev_t (by omega) (Ev_t (by omega) this))
 have set : ∀ (acc : List Ent) (b : Ent), risE acc → acc.length ≤ 1000 → Ev (fun k => spec_l27Set.f k acc b.f0 b.f1.f0 b.f1.f1 b.f1.f2) (putE acc b) := fun acc b h1 h2 => setE_ev acc (by omega) b (rsgG cb_ord h1 (fcE b))
 have len : ∀ (acc : List Ent) (b : Ent), (putE acc b).length ≤ acc.length + 1 := fun acc b => (putG_len (c := Go.Lib.compareBytes) (key := fcE) acc b).1
 have three : ∀ (d i : Nat) (acc : List Ent), i + d = z.length → risE acc → acc.length ≤ 48 + i → Ev (fun k => spec_l27Faces.l2 k z acc i) (((z.drop i).foldl putE acc).map (·.f0)) := by
  intro d
  induction d with
  | zero =>
   intro i acc h1 h2 h3
   refine Ev_suc ?_
   simp only [spec_l27Faces.l2]
   rw [List.drop_of_length_le (by omega), List.foldl_nil]
   have := last acc (by omega) acc.length 0 [] (by omega) (by simp)
   rw [List.drop_zero, List.nil_append] at this
   exact Ev_f (by omega) this
  | succ d ih =>
   intro i acc h1 h2 h3
   refine Ev_suc ?_
   simp only [spec_l27Faces.l2]
   have l1 := len acc z[i]
   rw [wr64s i (by omega), rdi_Entry z i (by omega), List.drop_eq_getElem_cons (show i < z.length by omega), List.foldl_cons]
   exact Ev_t (by omega) (Ev_t (by omega) (Ev_b (set acc z[i] h2 (by omega)) (ih (i + 1) _ (by omega) (putG_pw cb_ord h2 _) (by omega))))
 have two : ∀ (d i : Nat) (acc : List Ent), i + d = y.length → risE acc → acc.length ≤ 24 + i → Ev (fun k => spec_l27Faces.l1 k y z acc i) (((y.drop i ++ z).foldl putE acc).map (·.f0)) := by
  intro d
  induction d with
  | zero =>
   intro i acc h1 h2 h3
   refine Ev_suc ?_
   simp only [spec_l27Faces.l1]
   rw [List.drop_of_length_le (by omega), List.nil_append]
   exact Ev_f (by omega) (three z.length 0 acc (by omega) h2 (by omega))
  | succ d ih =>
   intro i acc h1 h2 h3
   refine Ev_suc ?_
   simp only [spec_l27Faces.l1]
   have l1 := len acc y[i]
   rw [wr64s i (by omega), rdi_Entry y i (by omega), List.drop_eq_getElem_cons (show i < y.length by omega), List.cons_append, List.foldl_cons]
   exact Ev_t (by omega) (Ev_t (by omega) (Ev_b (set acc y[i] h2 (by omega)) (ih (i + 1) _ (by omega) (putG_pw cb_ord h2 _) (by omega))))
 have one : ∀ (d i : Nat) (acc : List Ent), i + d = x.length → risE acc → acc.length ≤ i → Ev (fun k => spec_l27Faces.l0 k x y z acc i) (((x.drop i ++ y ++ z).foldl putE acc).map (·.f0)) := by
  intro d
  induction d with
  | zero =>
   intro i acc h1 h2 h3
   refine Ev_suc ?_
   simp only [spec_l27Faces.l0]
   rw [List.drop_of_length_le (by omega), List.nil_append]
   exact Ev_f (by omega) (two y.length 0 acc (by omega) h2 (by omega))
  | succ d ih =>
   intro i acc h1 h2 h3
   refine Ev_suc ?_
   simp only [spec_l27Faces.l0]
   have l1 := len acc x[i]
   rw [wr64s i (by omega), rdi_Entry x i (by omega), List.drop_eq_getElem_cons (show i < x.length by omega), List.cons_append, List.cons_append, List.foldl_cons]
   exact Ev_t (by omega) (Ev_t (by omega) (Ev_b (set acc x[i] h2 (by omega)) (ih (i + 1) _ (by omega) (putG_pw cb_ord h2 _) (by omega))))
 simp only [spec_l27Faces.f]
 exact one x.length 0 [] (by omega) List.Pairwise.nil (by simp)
theorem faces_eq (L : List Ent) : (L.foldl putE []).map (·.f0) = fcs (L.map (·.f0)) := by
 refine map_bL_inj (fs_uniq _ _ ?_ (fcs_pw _) (fun u => ?_))
 ·have h := fold_ris L [] List.Pairwise.nil
  rw [List.map_map]
  refine List.pairwise_map.2 (h.imp fun {a b} hab => ?_)
  exact (fs_lt _ _).2 hab
 ·rw [fcs_memb, List.map_map, List.map_map]
  have := fold_mem L [] u
  simpa [fcE, Function.comp_def, bL] using this
end Go.Proofs.Ytiheginanghhjaa.Q
namespace Go.Proofs.Ytiheginanghhjaa.Q
open Go.RowKit Go.Proofs.YtiheginanghhjaaW.PrintWords Go.Proofs.YtiheginanghhjaaW.PrintLast Go.Proofs.YtiheginanghhjaaW.PrintMore
def zE : Ent := ⟨(⟨#[]⟩ : ByteArray), ⟨(⟨#[]⟩ : ByteArray), 0, 0⟩⟩
def gE (m : List Ent) (u : ByteArray) : Ent := if fnd (fun x => Go.Lib.compareBytes (fcE x) u.data.toList) m = true then m.getD (plc (fun x => Go.Lib.compareBytes (fcE x) u.data.toList) m) zE else zE
def Stn (m : List Ent) : Prop := Sta m ∧ ∀ y ∈ m, y.f0.toList ≠ []
theorem name_ne (k : Nat) (x : ByteArray) (h : spec_l01Name.f k x = some true) : x.toList ≠ [] := by
 intro e
 simp only [spec_l01Name.f] at h
 rw [if_pos e] at h
 cases k with
 | zero => simp [spec_l01Name.j0] at h
 | succ k => simp [spec_l01Name.j0] at h
theorem state_ne (m : List Ent) : ∀ (k i : Nat), spec_l27State.l0 k m i = some true → ∀ (j : Nat) (hj : j < m.length), i ≤ j → m.length < 1000000 → m[j].f0.toList ≠ []
 | 0, i, h, _, _, _, _ => by simp [spec_l27State.l0] at h
 | k + 1, i, h, j, hj, hij, hm => by
  simp only [spec_l27State.l0] at h
  rw [if_pos (by omega), if_pos (by omega), wr64s i (by omega), rdi_Entry m i (by omega)] at h
  obtain ⟨t, h1, h2⟩ := Option.bind_eq_some_iff.1 h
  cases t with
  | false => simp at h2
  | true =>
   rw [if_pos rfl] at h2
   have nx : spec_l27State.l0 k m ((i + 1 : Nat) : Int) = some true := by
    split at h2
    ·split at h2
     ·split at h2
      ·split at h2
       ·exact h2
       ·simp at h2
      ·cases h2
     ·cases h2
    ·exact h2
   have hn : m[i].f0.toList ≠ [] := by
    have r0 : rd_T63 [m[i]'(by omega)] 0 = m[i]'(by omega) := rfl
    simp only [spec_l27Entry.f, r0] at h1
    rw [if_pos (by simp)] at h1
    obtain ⟨t2, g1, g2⟩ := Option.bind_eq_some_iff.1 h1
    cases t2 with
    | false => simp at g2
    | true => exact name_ne k _ g1
   rcases Nat.lt_or_eq_of_le hij with g | g
   ·exact state_ne m k (i + 1) nx j hj (by omega) hm
   ·subst g; exact hn
theorem stateN_ev (m : List Ent) (hl : (m.length : Int) ≤ 1048576) : ∃ b, Ev (fun k => spec_l27State.f k m) b ∧ Ev (fun k => impl_ValidState.f k m) b ∧ (b = true → Stn m) := by
 obtain ⟨b, h1, h2, h3⟩ := state_ev m hl
 refine ⟨b, h1, h2, fun hb => ?_⟩
 subst hb
 obtain ⟨K, hK⟩ := h1
 have hk := hK K (Nat.le_refl _)
 simp only [spec_l27State.f] at hk
 refine ⟨h3 rfl, fun y hy => ?_⟩
 obtain ⟨j, hj, rfl⟩ := List.mem_iff_getElem.1 hy
 have := (h3 rfl).1
 exact state_ne m K 0 hk j hj (by omega) (by omega)
theorem gE_at (m : List Ent) (u : ByteArray) (h : fnd (fun x => Go.Lib.compareBytes (fcE x) u.data.toList) m = true) : ∃ hp : plc (fun x => Go.Lib.compareBytes (fcE x) u.data.toList) m < m.length, gE m u = m[plc (fun x => Go.Lib.compareBytes (fcE x) u.data.toList) m]'hp ∧ fcE (m[plc (fun x => Go.Lib.compareBytes (fcE x) u.data.toList) m]'hp) = u.data.toList := by
 obtain ⟨hp, h0⟩ := fnd_t h
 refine ⟨hp, ?_, (cb_ord.zero _ _).1 h0⟩
 unfold gE
 rw [if_pos h]
 simp [List.getD, hp]
theorem getS_ev (m : List Ent) (hs : Sta m) (u : ByteArray) : Ev (fun k => spec_l27Get.f k m u) ((gE m u).f0, (gE m u).f1.f0, (gE m u).f1.f1, (gE m u).f1.f2) := by
 have h24 := hs.1
 have f1 := findE_ev m (by omega) u (hs.rsg _)
 simp only [spec_l27Get.f]
 cases hf : fnd (fun x => Go.Lib.compareBytes (fcE x) u.data.toList) m with
 | false =>
  rw [hf, if_neg (by decide)] at f1
  have e : gE m u = zE := by unfold gE; rw [hf]; rfl
  rw [e]
  exact Ev_b f1 (Ev_t (by decide) (Ev_n rfl))
 | true =>
  obtain ⟨hp, e, _⟩ := gE_at m u hf
  rw [hf, if_pos rfl] at f1
  refine Ev_b f1 (Ev_f (by omega) (Ev_t (by omega) (Ev_t (by omega) (Ev_n ?_))))
  rw [e, rdi_Entry m _ hp]
theorem getI_ev (m : List Ent) (hs : Sta m) (u : ByteArray) : Ev (fun k => impl_veneerAt.f k m u) ((gE m u).f1.f0, (gE m u).f1.f1, (gE m u).f1.f2) := by
 have h24 := hs.1
 have f2 := placeE_ev m (by omega) u (hs.rsg _)
 simp only [impl_veneerAt.f]
 cases hf : fnd (fun x => Go.Lib.compareBytes (fcE x) u.data.toList) m with
 | false =>
  rw [hf] at f2
  have e : gE m u = zE := by unfold gE; rw [hf]; rfl
  rw [e]
  exact Ev_b f2 (Ev_f (by simp) (Ev_n rfl))
 | true =>
  obtain ⟨hp, e, _⟩ := gE_at m u hf
  rw [hf] at f2
  refine Ev_b f2 (Ev_t rfl (Ev_t (by show (0 : Int) ≤ _; omega) (Ev_t (by show _ < (m.length : Int); omega) (Ev_n ?_))))
  simp only
  rw [e, rdi_Entry m _ hp]
theorem gE_cases (m : List Ent) (hs : Stn m) (u : ByteArray) : (gE m u = zE ∧ u ∉ m.map (·.f0)) ∨ ((gE m u).f0 = u ∧ (gE m u).f1.f0.toList ≠ [] ∧ u.toList ≠ [] ∧ u ∈ m.map (·.f0)) := by
 cases hf : fnd (fun x => Go.Lib.compareBytes (fcE x) u.data.toList) m with
 | false =>
  refine .inl ⟨by unfold gE; rw [hf]; rfl, fun h => ?_⟩
  obtain ⟨y, hy, e⟩ := List.mem_map.1 h
  obtain ⟨i, hi, rfl⟩ := List.mem_iff_getElem.1 hy
  have := fnd_f (hs.1.rsg u.data.toList) hf i hi
  apply this
  rw [cb_ord.zero]
  simp only [fcE]
  rw [← e]
 | true =>
  obtain ⟨hp, e, h0⟩ := gE_at m u hf
  have e2 : (m[plc (fun x => Go.Lib.compareBytes (fcE x) u.data.toList) m]'hp).f0 = u := bL_inj h0
  rw [e]
  refine .inr ⟨e2, ven_ne (hs.1.2.2 _ (List.getElem_mem _)), ?_, List.mem_map.2 ⟨_, List.getElem_mem hp, e2⟩⟩
  rw [← e2]
  exact hs.2 _ (List.getElem_mem _)
def dE (x y : Ent) : Bool := (!(x.f0.toList == y.f0.toList) || ((!(x.f1.f0.toList == y.f1.f0.toList) || (!(x.f1.f1 == y.f1.f1) || (!(x.f1.f2 == y.f1.f2))))))
def dV (x y : Ent) : Bool := (!(x.f1.f0.toList == y.f1.f0.toList) || (!(x.f1.f1 == y.f1.f1) || (!(x.f1.f2 == y.f1.f2))))
theorem dE_comm (x y : Ent) : dE x y = dE y x := by
 have h1 : (x.f0.toList == y.f0.toList) = (y.f0.toList == x.f0.toList) := Bool.beq_comm
 have h2 : (x.f1.f0.toList == y.f1.f0.toList) = (y.f1.f0.toList == x.f1.f0.toList) := Bool.beq_comm
 have h3 : (x.f1.f1 == y.f1.f1) = (y.f1.f1 == x.f1.f1) := Bool.beq_comm
 have h4 : (x.f1.f2 == y.f1.f2) = (y.f1.f2 == x.f1.f2) := Bool.beq_comm
 unfold dE
 rw [h1, h2, h3, h4]
theorem zt : (zE.f0.toList = []) ∧ (zE.f1.f0.toList = []) := by
 constructor <;> (show (⟨#[]⟩ : ByteArray).toList = []; rw [Go.ByteArray.toList_eq])
theorem dV_eq (m n : List Ent) (hm : Stn m) (hn : Stn n) (u : ByteArray) : dV (gE m u) (gE n u) = dE (gE m u) (gE n u) := by
 rcases gE_cases m hm u with ⟨a, _⟩ | ⟨a1, a2, a3, _⟩
 ·rcases gE_cases n hn u with ⟨b, _⟩ | ⟨b1, b2, b3, _⟩
  ·rw [a, b]; simp [dV, dE]
  ·rw [a]
   have h : dV zE (gE n u) = true := by simp [dV, zt.2, b2]
   have h2 : dE zE (gE n u) = true := by simp [dE, zt.1, b1, b3]
   rw [h, h2]
 ·rcases gE_cases n hn u with ⟨b, _⟩ | ⟨b1, b2, b3, _⟩
  ·rw [b]
   have h : dV (gE m u) zE = true := by simp [dV, zt.2, a2]
   have h2 : dE (gE m u) zE = true := by simp [dE, zt.1, a1, a3]
   rw [h, h2]
  ·simp [dV, dE, a1, b1]
def clE (base a b : List Ent) (u : ByteArray) : Bool := dE (gE base u) (gE a u) && (dE (gE base u) (gE b u) && dE (gE a u) (gE b u))
theorem rdB (l : List ByteArray) (i : Nat) (h : i < l.length) : rdOf ByteArray.empty l (i : Int) = l[i] := getD_in l _ i h
theorem sclash_ev (base a b : List Ent) (h0 : Stn base) (h1 : Stn a) (h2 : Stn b) : Ev (fun k => spec_l27Clashes.f k base a b) ((fcs ((base ++ a ++ b).map (·.f0))).filter (clE base a b)) := by
 have l0 := h0.1.1
 have l1 := h1.1.1
 have l2 := h2.1.1
 have f := sfaces_ev base a b l0 l1 l2
 rw [faces_eq] at f
 have fl := fcs_len ((base ++ a ++ b).map (·.f0))
 simp only [List.length_map, List.length_append] at fl
 generalize fcs ((base ++ a ++ b).map (·.f0)) = F at f fl
 have go : ∀ (d i : Nat) (out : List ByteArray), i + d = F.length → out.length ≤ i → Ev (fun k => spec_l27Clashes.l0 k base a b F out i) (out ++ (F.drop i).filter (clE base a b)) := by
  intro d
  induction d with
  | zero =>
   intro i out g1 g2
   refine Ev_suc ?_
   simp only [spec_l27Clashes.l0]
   rw [List.drop_of_length_le (by omega), List.filter_nil, List.append_nil]
   exact Ev_f (by omega) (Ev_n rfl)
  | succ d ih =>
   intro i out g1 g2
   refine Ev_suc ?_
   simp only [spec_l27Clashes.l0]
   have hi : i < F.length := by omega
   rw [rdB F i hi, wr64s i (by omega), List.drop_eq_getElem_cons hi]
   refine Ev_t (by omega) (Ev_t (by omega) (Ev_b (getS_ev base h0.1 F[i]) (Ev_b (getS_ev a h1.1 F[i]) (Ev_b (getS_ev b h2.1 F[i]) ?_))))
   have skip : clE base a b F[i] = false → Ev (fun k => spec_l27Clashes.l0 k base a b F out ((i + 1 : Nat) : Int)) (out ++ (F[i] :: F.drop (i + 1)).filter (clE base a b)) := fun hc => by
    rw [List.filter_cons_of_neg (by rw [hc]; decide)]
    exact ih (i + 1) out (by omega) (by omega)
   by_cases c1 : dE (gE base F[i]) (gE a F[i]) = true
   rotate_left
   ·exact Ev_f c1 (skip (by simp [clE, c1]))
   refine Ev_t c1 ?_
   by_cases c2 : dE (gE base F[i]) (gE b F[i]) = true
   rotate_left
   ·exact Ev_f c2 (skip (by simp [clE, c2]))
   refine Ev_t c2 ?_
   by_cases c3 : dE (gE a F[i]) (gE b F[i]) = true
   rotate_left
   ·exact Ev_f c3 (skip (by simp [clE, c3]))
   refine Ev_t c3 (Ev_t (by omega) ?_)
   rw [List.filter_cons_of_pos (by simp [clE, c1, c2, c3])]
   have := ih (i + 1) (out ++ [F[i]]) (by omega) (by simp; omega)
   rwa [List.append_assoc, List.singleton_append] at this
 simp only [spec_l27Clashes.f]
 refine Ev_b f ?_
 have := go F.length 0 [] (by omega) (by simp)
 rwa [List.drop_zero, List.nil_append] at this
theorem iclash_ev (base a b : List Ent) (h0 : Stn base) (h1 : Stn a) (h2 : Stn b) : Ev (fun k => impl_ClashesOf.j0 k base a b false) ((fcs ((base ++ a ++ b).map (·.f0))).filter (clE base a b), 0) := by
 have l0 := h0.1.1
 have l1 := h1.1.1
 have l2 := h2.1.1
 have f := faces_ev [base, a, b] (by simp) (by simp; omega)
 have fe : [base, a, b].flatten = base ++ a ++ b := by simp
 rw [fe] at f
 have fl := fcs_len ((base ++ a ++ b).map (·.f0))
 simp only [List.length_map, List.length_append] at fl
 generalize fcs ((base ++ a ++ b).map (·.f0)) = F at f fl
 have go : ∀ (d i : Nat) (out : List ByteArray), i + d = F.length → out.length ≤ i → Ev (fun k => impl_ClashesOf.l0 k base a b out F (F.length : Int) i) (out ++ (F.drop i).filter (clE base a b), 0) := by
  intro d
  induction d with
  | zero =>
   intro i out g1 g2
   refine Ev_suc ?_
   simp only [impl_ClashesOf.l0]
   rw [List.drop_of_length_le (by omega), List.filter_nil, List.append_nil]
   exact Ev_f (by omega) (Ev_n rfl)
  | succ d ih =>
   intro i out g1 g2
   refine Ev_suc ?_
   simp only [impl_ClashesOf.l0]
   have hi : i < F.length := by omega
   rw [rdB F i hi, wr64s i (by omega), List.drop_eq_getElem_cons hi]
   refine Ev_t (by omega) (Ev_t (by omega) (Ev_t (by omega) (Ev_b (getI_ev base h0.1 F[i]) (Ev_b (getI_ev a h1.1 F[i]) (Ev_b (getI_ev b h2.1 F[i]) ?_)))))
   have skip : clE base a b F[i] = false → Ev (fun k => impl_ClashesOf.l0 k base a b out F (F.length : Int) ((i + 1 : Nat) : Int)) (out ++ (F[i] :: F.drop (i + 1)).filter (clE base a b), 0) := fun hc => by
    rw [List.filter_cons_of_neg (by rw [hc]; decide)]
    exact ih (i + 1) out (by omega) (by omega)
   have e1 := dV_eq a b h1 h2 F[i]
   have e2 := (dV_eq a base h1 h0 F[i]).trans (dE_comm _ _)
   have e3 := (dV_eq b base h2 h0 F[i]).trans (dE_comm _ _)
   by_cases c1 : dV (gE a F[i]) (gE b F[i]) = true
   rotate_left
   ·refine Ev_f c1 (skip ?_)
    rw [e1] at c1
    simp [clE, c1]
   refine Ev_t c1 ?_
   rw [e1] at c1
   by_cases c2 : dV (gE a F[i]) (gE base F[i]) = true
   rotate_left
   ·refine Ev_f c2 (skip ?_)
    rw [e2] at c2
    simp [clE, c2]
   refine Ev_t c2 ?_
   rw [e2] at c2
   by_cases c3 : dV (gE b F[i]) (gE base F[i]) = true
   rotate_left
   ·refine Ev_f c3 (skip ?_)
    rw [e3] at c3
    simp [clE, c3]
   refine Ev_t c3 (Ev_t (by omega) ?_)
   rw [e3] at c3
   rw [List.filter_cons_of_pos (by simp [clE, c1, c2, c3])]
   have := ih (i + 1) (out ++ [F[i]]) (by omega) (by simp; omega)
   rwa [List.append_assoc, List.singleton_append] at this
 refine Ev_suc ?_
 simp only [impl_ClashesOf.j0]
 refine Ev_f (by decide) (Ev_b f ?_)
 have := go F.length 0 [] (by omega) (by simp)
 rwa [List.drop_zero, List.nil_append] at this
theorem three_ev (base a b : List Ent) (g0 : (base.length : Int) ≤ 1048576) (g1 : (a.length : Int) ≤ 1048576) (g2 : (b.length : Int) ≤ 1048576) :
  (Stn base ∧ Stn a ∧ Stn b ∧ (∀ r, Ev (fun k => spec_l27Clashes.f k base a b) r → Ev (fun k => spec_ClashesOf.f k base a b) (r, 0)) ∧ (∀ r, Ev (fun k => spec_l27Merge.f k base a b) r → Ev (fun k => spec_MergeStates.f k base a b) r) ∧ ∀ r, Ev (fun k => impl_ClashesOf.j0 k base a b false) r → Ev (fun k => impl_ClashesOf.f k base a b) r) ∨
  (Ev (fun k => spec_ClashesOf.f k base a b) ([], 1) ∧ Ev (fun k => spec_MergeStates.f k base a b) ([], 1) ∧ Ev (fun k => impl_ClashesOf.f k base a b) ([], 1)) := by
 have no : Ev (fun k => impl_ClashesOf.j0 k base a b true) ([], 1) := by
  refine Ev_suc ?_
  simp only [impl_ClashesOf.j0]
  exact Ev_t (by first | exact True.intro | rfl) (Ev_n rfl)
 obtain ⟨b0, s0, i0, n0⟩ := stateN_ev base g0
 obtain ⟨b1, s1, i1, n1⟩ := stateN_ev a g1
 obtain ⟨b2, s2, i2, n2⟩ := stateN_ev b g2
 simp only [spec_ClashesOf.f, spec_MergeStates.f, impl_ClashesOf.f]
 cases b0 with
 | false => exact .inr ⟨Ev_b s0 (Ev_f (by decide) (Ev_n rfl)), Ev_b s0 (Ev_f (by decide) (Ev_n rfl)), Ev_b i0 (Ev_f (by decide) no)⟩
 | true =>
  cases b1 with
  | false => exact .inr ⟨Ev_b s0 (Ev_t rfl (Ev_b s1 (Ev_f (by decide) (Ev_n rfl)))), Ev_b s0 (Ev_t rfl (Ev_b s1 (Ev_f (by decide) (Ev_n rfl)))), Ev_b i0 (Ev_t rfl (Ev_b i1 (Ev_f (by decide) no)))⟩
  | true =>
   cases b2 with
   | false => exact .inr ⟨Ev_b s0 (Ev_t rfl (Ev_b s1 (Ev_t rfl (Ev_b s2 (Ev_f (by decide) (Ev_n rfl)))))), Ev_b s0 (Ev_t rfl (Ev_b s1 (Ev_t rfl (Ev_b s2 (Ev_f (by decide) (Ev_n rfl)))))), Ev_b i0 (Ev_t rfl (Ev_b i1 (Ev_t rfl (Ev_b i2 no))))⟩
   | true =>
    exact .inl ⟨n0 rfl, n1 rfl, n2 rfl, fun r h => Ev_b s0 (Ev_t rfl (Ev_b s1 (Ev_t rfl (Ev_b s2 (Ev_t rfl (Ev_b h (Ev_n rfl))))))),
     fun r h => Ev_b s0 (Ev_t rfl (Ev_b s1 (Ev_t rfl (Ev_b s2 (Ev_t rfl (Ev_b h (Ev_n rfl))))))),
     fun r h => Ev_b i0 (Ev_t rfl (Ev_b i1 (Ev_t rfl (Ev_b i2 h))))⟩
theorem clash_ev (base a b : List Ent) (g0 : (base.length : Int) ≤ 1048576) (g1 : (a.length : Int) ≤ 1048576) (g2 : (b.length : Int) ≤ 1048576) : ∃ r c, r.length ≤ 1048576 ∧ Ev (fun k => spec_ClashesOf.f k base a b) (r, c) ∧ Ev (fun k => impl_ClashesOf.f k base a b) (r, c) := by
 rcases three_ev base a b g0 g1 g2 with ⟨n0, n1, n2, h1, _, h3⟩ | ⟨h1, _, h3⟩
 ·refine ⟨_, 0, ?_, h1 _ (sclash_ev base a b n0 n1 n2), h3 _ (iclash_ev base a b n0 n1 n2)⟩
  have l0 := n0.1.1
  have l1 := n1.1.1
  have l2 := n2.1.1
  have fl := fcs_len ((base ++ a ++ b).map (·.f0))
  have gl := List.length_filter_le (clE base a b) (fcs ((base ++ a ++ b).map (·.f0)))
  simp only [List.length_map, List.length_append] at fl
  omega
 ·exact ⟨[], 1, by simp, h1, h3⟩
end Go.Proofs.Ytiheginanghhjaa.Q
namespace Go.Proofs.Ytiheginanghhjaa.Q
open Go.RowKit Go.Proofs.YtiheginanghhjaaW.PrintWords Go.Proofs.YtiheginanghhjaaW.PrintLast Go.Proofs.YtiheginanghhjaaW.PrintMore
set_option linter.unusedVariables false
theorem law_ClashesOf : laws_FnExactClashesOf.Pure := by
 intro x x2 x3 hx hx2 hx3
 have hM : maxLen = 9223372036854775807 := by decide
 refine Ev.rounds (r := true) ?_
 simp only [laws_FnExactClashesOf.f]
 refine Ev_b (szS_Entry x hx.1 hx.2 (1048576) (by omega) (by omega)) ?_
 by_cases cx : ((ZS_Entry x : Nat) : Int) ≤ 1048576
 case neg => rw [cut_neg cx]; exact Ev_t (by decide) (Ev_n rfl)
 rw [cut_pos cx]
 refine Ev_f (by omega) ?_
 refine Ev_b (szS_Entry x2 hx2.1 hx2.2 (1048576 - ((ZS_Entry x : Nat) : Int)) (by omega) (by omega)) ?_
 by_cases cx2 : ((ZS_Entry x2 : Nat) : Int) ≤ 1048576 - ((ZS_Entry x : Nat) : Int)
 case neg => rw [cut_neg cx2]; exact Ev_t (by decide) (Ev_n rfl)
 rw [cut_pos cx2]
 refine Ev_f (by omega) ?_
 refine Ev_b (szS_Entry x3 hx3.1 hx3.2 (1048576 - ((ZS_Entry x : Nat) : Int) - ((ZS_Entry x2 : Nat) : Int)) (by omega) (by omega)) ?_
 by_cases cx3 : ((ZS_Entry x3 : Nat) : Int) ≤ 1048576 - ((ZS_Entry x : Nat) : Int) - ((ZS_Entry x2 : Nat) : Int)
 case neg => rw [cut_neg cx3]; exact Ev_t (by decide) (Ev_n rfl)
 rw [cut_pos cx3]
 refine Ev_f (by omega) ?_
 have nx : (x.length : Int) ≤ 1048576 := by have := (ZS_in_Entry x).1; omega
 have bx : ∀ q_ ∈ x, B_Entry q_ := fun q_ hq_ => B_of_Entry q_ (by have := (ZS_in_Entry x).2 q_ hq_; omega)
 have mx : ((x.map conv_Entry).length : Int) ≤ 1048576 := by simpa using nx
 have Ex : ∀ q_ ∈ x.map conv_Entry, E_Entry q_ := fun y hy => by obtain ⟨u, hu, rfl⟩ := List.mem_map.1 hy; exact E_of_Entry u (bx u hu)
 have tx := toS_Entry x nx bx
 have qx := eqS_Entry (x.map conv_Entry) mx Ex
 have zx : ∀ q_ ∈ x.map conv_Entry, ∃ u ∈ x, conv_Entry u = q_ ∧ ((Z_Entry u : Nat) : Int) ≤ 1048576 := fun y hy => by obtain ⟨u, hu, e⟩ := List.mem_map.1 hy; exact ⟨u, hu, e, by have := (ZS_in_Entry x).2 u hu; omega⟩
 have nx2 : (x2.length : Int) ≤ 1048576 := by have := (ZS_in_Entry x2).1; omega
 have bx2 : ∀ q_ ∈ x2, B_Entry q_ := fun q_ hq_ => B_of_Entry q_ (by have := (ZS_in_Entry x2).2 q_ hq_; omega)
 have mx2 : ((x2.map conv_Entry).length : Int) ≤ 1048576 := by simpa using nx2
 have Ex2 : ∀ q_ ∈ x2.map conv_Entry, E_Entry q_ := fun y hy => by obtain ⟨u, hu, rfl⟩ := List.mem_map.1 hy; exact E_of_Entry u (bx2 u hu)
 have tx2 := toS_Entry x2 nx2 bx2
 have qx2 := eqS_Entry (x2.map conv_Entry) mx2 Ex2
 have zx2 : ∀ q_ ∈ x2.map conv_Entry, ∃ u ∈ x2, conv_Entry u = q_ ∧ ((Z_Entry u : Nat) : Int) ≤ 1048576 := fun y hy => by obtain ⟨u, hu, e⟩ := List.mem_map.1 hy; exact ⟨u, hu, e, by have := (ZS_in_Entry x2).2 u hu; omega⟩
 have nx3 : (x3.length : Int) ≤ 1048576 := by have := (ZS_in_Entry x3).1; omega
 have bx3 : ∀ q_ ∈ x3, B_Entry q_ := fun q_ hq_ => B_of_Entry q_ (by have := (ZS_in_Entry x3).2 q_ hq_; omega)
 have mx3 : ((x3.map conv_Entry).length : Int) ≤ 1048576 := by simpa using nx3
 have Ex3 : ∀ q_ ∈ x3.map conv_Entry, E_Entry q_ := fun y hy => by obtain ⟨u, hu, rfl⟩ := List.mem_map.1 hy; exact E_of_Entry u (bx3 u hu)
 have tx3 := toS_Entry x3 nx3 bx3
 have qx3 := eqS_Entry (x3.map conv_Entry) mx3 Ex3
 have zx3 : ∀ q_ ∈ x3.map conv_Entry, ∃ u ∈ x3, conv_Entry u = q_ ∧ ((Z_Entry u : Nat) : Int) ≤ 1048576 := fun y hy => by obtain ⟨u, hu, e⟩ := List.mem_map.1 hy; exact ⟨u, hu, e, by have := (ZS_in_Entry x3).2 u hu; omega⟩
 obtain ⟨r0, r1, E0, e1, e2⟩ := clash_ev (x.map conv_Entry) (x2.map conv_Entry) (x3.map conv_Entry) mx mx2 mx3
 have qr0 := eqStringS_ev r0 (by omega)
 obtain ⟨px, _, mmx, _⟩ := mk_Entry (x.map conv_Entry) (1) (by omega) (by omega) (by omega)
 obtain ⟨px2, _, mmx2, _⟩ := mk_Entry (x2.map conv_Entry) (1 + 4 * ((x.map conv_Entry).length : Int)) (by omega) (by omega) (by omega)
 obtain ⟨px3, _, mmx3, _⟩ := mk_Entry (x3.map conv_Entry) (1 + 4 * ((x.map conv_Entry).length : Int) + 4 * ((x2.map conv_Entry).length : Int)) (by omega) (by omega) (by omega)
 obtain ⟨pr0, _, mr0, hr0⟩ := mk_String r0 1 (by omega) (by omega) (by omega)
 repeat' (first | ((first | (with_reducible refine Ev_b e1 ?_) | (with_reducible refine Ev_b e2 ?_) | (with_reducible refine Ev_b tx ?_) | (with_reducible refine Ev_b qx ?_) | (with_reducible refine Ev_b tx2 ?_) | (with_reducible refine Ev_b qx2 ?_) | (with_reducible refine Ev_b tx3 ?_) | (with_reducible refine Ev_b qx3 ?_) | (with_reducible refine Ev_b qr0 ?_) | (with_reducible refine Ev_b mmx ?_) | (with_reducible refine Ev_b mmx2 ?_) | (with_reducible refine Ev_b mmx3 ?_) | (with_reducible refine Ev_b mr0 ?_) | (with_reducible refine Ev_b hr0 ?_)); try dsimp only) | (with_reducible refine Ev_t rfl ?_) | (with_reducible refine Ev_t True.intro ?_) | (refine Ev_f (by omega) ?_) | (refine Ev_t (by omega) ?_) | (refine Ev_f (by simp) ?_) | exact Ev_n rfl | (refine Ev_suc ?_; first | simp only [laws_FnExactClashesOf.j0] | simp only [laws_FnExactClashesOf.j1] | simp only [laws_FnExactClashesOf.j2]))
end Go.Proofs.Ytiheginanghhjaa.Q
namespace Go.Proofs.Ytiheginanghhjaa.Pure
open Go.Proofs.Ytiheginanghhjaa.Q
theorem FnExactClashesOf : laws_FnExactClashesOf.Pure := law_ClashesOf
end Go.Proofs.Ytiheginanghhjaa.Pure
namespace Go.Proofs.Ytiheginanghhjaa.fnExactClashesOf
open Go.ChangeShapes Go.WideShapes Go.ChangeAt Go.RowKit Go.Proofs.Ytiheginanghhjaa.OPN Go.Proofs.Ytiheginanghhjaa.Q Go.Proofs.YtiheginanghhjaaW.PrintWords
open Go.ChangeMaps (open_string shut_string)
set_option linter.unusedVariables false
theorem own : ownKnob Try.prog.godebug = none := by kernel_rfl
theorem laidOut : laidOutB Try.prog = true := by kernel_rfl
set_option maxRecDepth 100000 in
theorem lifted (os : Os) (started : os.Started) (H : Type) (enc : TypeId × Value → H) :
  ReturnsInHanded {} Try.checked os 3 .any (Rows.fnExactClashesOfSpec.pre6 enc Try.prog Try.f3 Rows.fnExactClashesOfRow.domain false) (Rows.fnExactClashesOfSpec.post enc Try.prog Try.f3 false true false false) := by
 refine returnsInHanded_of_change_sized (C := Try.checked) own started (by kernel_rfl) Try.func3
  (ChangeSpec.witness6 (enc := enc) (C := Try.checked) false ⟨#[], #[.slice none 0 0, .slice none 0 0, .slice none 0 0], []⟩ 8 (by kernel_rfl) (by kernel_rfl) (by kernel_rfl) (by kernel_rfl)) ?_
 intro W base args ds gs before hval0 hW hcnd hsz0 _
 have hval : ∀ (j : Nat) t v, Try.f3.params[j]? = some t → args[j]? = some v → Value.okWide Try.prog W .any base t v := hval0
 have hW' := hW
 obtain ⟨p, q, hA0, hV, rfl, hfz, hnd⟩ := hW
 have hA : DataW.TrodAll enc Try.prog W 0 (fun _ => true) true Try.f3.params.toList args.toList ds p := hA0
 rw [Try.params3] at hA hval
 obtain ⟨v0, vs0, d0, ds0, p0, q0, hargs, rfl, rfl, h0, r0⟩ := trodAll_cons hA
 obtain ⟨v1, vs1, d1, ds1, p1, q1, rfl, rfl, rfl, h1, r1⟩ := trodAll_cons r0
 obtain ⟨v2, vs2, d2, ds2, p2, q2, rfl, rfl, rfl, h2, r2⟩ := trodAll_cons r1
 obtain ⟨rfl, rfl, rfl⟩ := trodAll_nil r2
 obtain rfl : args = #[v0, v1, v2] := by cases args; simp_all
 obtain ⟨rfl, rfl⟩ := trodVars_none hV
 have lt0 : ∀ x ∈ p0, x.block < W.heap.size := by obtain ⟨m, hm⟩ := h0; exact DataW.trod_lt m _ _ _ hm
 have k0 := h0
 obtain ⟨z0, y0, u0, rfl⟩ := okWide_slice Try.underlying22 (hval 0 22 v0 rfl rfl)
 obtain ⟨fu0, hf0⟩ := h0
 obtain ⟨x0, ⟨A0, c0, hcs0, hc0, hr0⟩, w0⟩ := ((opn_slice Try.underlying22 (by kernel_rfl) opn59) : Opn _ _ (Kd.slice 59 k59) _).get rfl hf0
 obtain ⟨rfl, rfl, rfl⟩ : A0 = z0 ∧ x0.length = y0 ∧ c0 = u0 := (fun (h_ : z0 = A0 ∧ y0 = x0.length ∧ u0 = c0) => ⟨h_.1.symm, h_.2.1.symm, h_.2.2.symm⟩) (by simpa [Value.cells] using hcs0)
 have lt1 : ∀ x ∈ p1, x.block < W.heap.size := by obtain ⟨m, hm⟩ := h1; exact DataW.trod_lt m _ _ _ hm
 have k1 := h1
 obtain ⟨z1, y1, u1, rfl⟩ := okWide_slice Try.underlying22 (hval 1 22 v1 rfl rfl)
 obtain ⟨fu1, hf1⟩ := h1
 obtain ⟨x1, ⟨A1, c1, hcs1, hc1, hr1⟩, w1⟩ := ((opn_slice Try.underlying22 (by kernel_rfl) opn59) : Opn _ _ (Kd.slice 59 k59) _).get rfl hf1
 obtain ⟨rfl, rfl, rfl⟩ : A1 = z1 ∧ x1.length = y1 ∧ c1 = u1 := (fun (h_ : z1 = A1 ∧ y1 = x1.length ∧ u1 = c1) => ⟨h_.1.symm, h_.2.1.symm, h_.2.2.symm⟩) (by simpa [Value.cells] using hcs1)
 have lt2 : ∀ x ∈ p2, x.block < W.heap.size := by obtain ⟨m, hm⟩ := h2; exact DataW.trod_lt m _ _ _ hm
 have k2 := h2
 obtain ⟨z2, y2, u2, rfl⟩ := okWide_slice Try.underlying22 (hval 2 22 v2 rfl rfl)
 obtain ⟨fu2, hf2⟩ := h2
 obtain ⟨x2, ⟨A2, c2, hcs2, hc2, hr2⟩, w2⟩ := ((opn_slice Try.underlying22 (by kernel_rfl) opn59) : Opn _ _ (Kd.slice 59 k59) _).get rfl hf2
 obtain ⟨rfl, rfl, rfl⟩ : A2 = z2 ∧ x2.length = y2 ∧ c2 = u2 := (fun (h_ : z2 = A2 ∧ y2 = x2.length ∧ u2 = c2) => ⟨h_.1.symm, h_.2.1.symm, h_.2.2.symm⟩) (by simpa [Value.cells] using hcs2)
 clear hA0 hval0 hsz0
 obtain ⟨k, hP⟩ := Pure.FnExactClashesOf x0 x1 x2 w0 w1 w2
 refine (laws_FnExactClashesOf.calls k A0 c0 x0 A1 c1 x1 A2 c2 x2 true W hr0 hc0 hr1 hc1 hr2 hc2 hP).mono fun e W' hh => ?_
 obtain ⟨rfl, bel0⟩ := hh
 have bel : Below W.heap.size W W' := bel0
 exact ⟨_, rfl, _, _, _, [], _, [], hW', trodAll_mk1 (shut_bool Try.underlying4 _), (trodAll_cons_mk (Below.trod laidOut (by kernel_rfl) (of_decide_eq_true (by kernel_rfl)) k0 bel lt0) (trodAll_cons_mk (Below.trod laidOut (by kernel_rfl) (of_decide_eq_true (by kernel_rfl)) k1 bel lt1) (trodAll_cons_mk (Below.trod laidOut (by kernel_rfl) (of_decide_eq_true (by kernel_rfl)) k2 bel lt2) trodAll_mk0))), rfl, bel.frame _, fun h => by cases h⟩
theorem over : Rows.fnExactClashesOfRow.holds Try.pinned (OpenSpec.ofChange Rows.fnExactClashesOfSpec) :=
 OpenClaim.holds_of_wide 3 Try.f3 rfl rfl rfl rfl rfl rfl rfl ⟨rfl, rfl, rfl, rfl, rfl⟩ rfl rfl rfl rfl rfl (by kernel_rfl) Try.func3 (by kernel_rfl)
  (of_decide_eq_true (by kernel_rfl)) (by unfold Func.isWrapper; first | (rw [if_pos (by decide +kernel)]; kernel_rfl) | (rw [if_neg (by decide +kernel)]; exact ⟨rfl, rfl⟩))
  (fun os started H enc _ => lifted os started H enc)
theorem proved : Rows.FnExactClashesOfSaid := over
#print axioms proved
end Go.Proofs.Ytiheginanghhjaa.fnExactClashesOf
namespace Go.Proofs.Ytiheginanghhjaa
theorem fnExactClashesOf_holds : Rows.FnExactClashesOfSaid := fnExactClashesOf.proved
end Go.Proofs.Ytiheginanghhjaa
