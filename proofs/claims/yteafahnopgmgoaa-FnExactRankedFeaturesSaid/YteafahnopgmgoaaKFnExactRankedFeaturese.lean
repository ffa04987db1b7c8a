/- For every list of features and every feature, the law FnExactRankedFeatures returns true: the program ranks the features as the reference does, in memory of its own. This text holds the last walks, the plain law and the row. -/
import Derived.Test.YteafahnopgmgoaaRows
import Derived.WalkKit
import Derived.ProofKit
import Derived.OpenShut
import Derived.ShutString
import Derived.ChangeOld
import Derived.Below
import Derived.SizedLaws
import Derived.Carry
import Derived.Test.YteafahnopgmgoaaKFnExactRankedFeaturesa
import Derived.Test.YteafahnopgmgoaaKFnExactRankedFeaturesb
import Derived.Test.YteafahnopgmgoaaKFnExactRankedFeaturesc
import Derived.Test.YteafahnopgmgoaaKFnExactRankedFeaturesd
set_option linter.unusedVariables false
set_option linter.unusedSimpArgs false
namespace Go.Proofs.Yteafahnopgmgoaa.Q
open Go.RowKit Go.Proofs.YteafahnopgmgoaaW.PrintWords Go.Proofs.YteafahnopgmgoaaW.PrintLast Go.Proofs.YteafahnopgmgoaaW.PrintMore
attribute [local go_sem] max2_int min2_int max_two min_two max_three min_three max_four min_four
set_option linter.unusedVariables false
set_option linter.unusedSimpArgs false
mutual
def laws_FnExactRankedFeatures.j0 : Nat → List (S24) → List Int → Int → List (S28) → List Int → Int → Bool → ByteArray → List Int → ByteArray → List Int → Option (Bool)
  | 0, _, _, _, _, _, _, _, _, _, _, _ => none
  | k + 1, x0, x6, x7, x8, x10, x11, x53, x102000, x102001, x123000, x123001 => if x53 = true then (some false) else ((laws_toFeatureS.f k x0).bind fun t128 => ((laws_eqFeatureS.f k x8 t128).bind fun t131 => (if t131 = true then ((laws_toFeature.f k x102000 x102001).bind fun bt132 => ((laws_eqFeature.f k x123000 x123001 bt132.1 bt132.2).bind fun t136 => (if t136 = true then ((laws_markFeatureS.f k x8 1).bind fun bt137 => ((laws_markFeature.f k x123000 x123001 bt137.1).bind fun bt139 => (if bt139.1 < 0 then (laws_FnExactRankedFeatures.j1 k x0 x6 x7 x10 true x102000 x102001) else ((laws_eqInt64S.f k x10 x6).bind fun t141 => (if t141 = true then (laws_FnExactRankedFeatures.j1 k x0 x6 x7 x10 (x11 != x7) x102000 x102001) else (laws_FnExactRankedFeatures.j1 k x0 x6 x7 x10 true x102000 x102001)))))) else (some false)))) else (some false))))
def laws_FnExactRankedFeatures.j1 : Nat → List (S24) → List Int → Int → List Int → Bool → ByteArray → List Int → Option (Bool)
  | 0, _, _, _, _, _, _, _ => none
  | k + 1, x0, x6, x7, x10, x82, x102000, x102001 => if x82 = true then (some false) else ((laws_markInt64S.f k x10 1).bind fun bt142 => ((laws_heldInt64S.f k bt142.2 1).bind fun t144 => (if t144 < 0 then (some false) else (if t144 = bt142.1 then ((laws_toFeatureS.f k x0).bind fun t145 => ((laws_toFeature.f k x102000 x102001).bind fun bt148 => ((impl_RankedFeatures.f k t145 bt148.1 bt148.2).bind fun bt152 => ((laws_eqInt64S.f k bt152.1 x6).bind fun t156 => (if t156 = true then (laws_FnExactRankedFeatures.j2 k bt142.2 bt142.1 (bt152.2 != x7)) else (laws_FnExactRankedFeatures.j2 k bt142.2 bt142.1 true)))))) else (some false)))))
def laws_FnExactRankedFeatures.j2 : Nat → List Int → Int → Bool → Option (Bool)
  | 0, _, _, _ => none
  | k + 1, x10, x13, x110 => if x110 = true then (some false) else ((laws_heldInt64S.f k x10 1).bind fun t157 => (if t157 < 0 then (some false) else (if t157 = x13 then (some true) else (some false))))
end
def laws_FnExactRankedFeatures.f (k : Nat) (l0 : List (S24)) (a1_0 : ByteArray) (l1_1 : List Int) : Option (Bool) := (laws_szFeatureS.f k l0 1048576).bind fun t102 => (if t102 < 0 then (some true) else ((laws_szFeature.f a1_0 l1_1 t102).bind fun t103 => (if t103 < 0 then (some true) else ((laws_toFeatureS.f k l0).bind fun t104 => ((laws_toFeature.f k a1_0 l1_1).bind fun bt107 => ((spec_RankedFeatures.f k t104 bt107.1 bt107.2).bind fun bt111 => ((laws_toFeatureS.f k l0).bind fun t115 => ((laws_toFeature.f k a1_0 l1_1).bind fun bt118 => ((impl_RankedFeatures.f k t115 bt118.1 bt118.2).bind fun bt123 => ((laws_eqInt64S.f k bt123.1 bt111.1).bind fun t127 => (if t127 = true then (laws_FnExactRankedFeatures.j0 k l0 bt111.1 bt111.2 t115 bt123.1 bt123.2 (bt123.2 != bt111.2) a1_0 l1_1 bt118.1 bt118.2) else (laws_FnExactRankedFeatures.j0 k l0 bt111.1 bt111.2 t115 bt123.1 bt123.2 true a1_0 l1_1 bt118.1 bt118.2))))))))))))
def laws_FnExactRankedFeatures.T8 : Bool × List (List Nat × List Nat) := (true, [([], []), ([0], [0]), ([], []), ([2, 1], [2]), ([1, 3, 3], [1, 3]), ([4], [4]), ([5], [5]), ([5], [5]), ([6, 4, 0, 1, 2, 3, 4, 5, 6], [6]), ([7, 8, 0, 1, 2, 3, 4, 5, 6, 7, 8], [7])])
def laws_FnExactRankedFeatures.B8 : List Nat := [0, 1, 0, 7, 15, 31, 63, 63, 127, 511]
theorem laws_FnExactRankedFeatures.tab8 : rtab .any (opsOf Try.f10 8) = laws_FnExactRankedFeatures.T8 := by kernel_rfl
theorem laws_FnExactRankedFeatures.bits8 : waitsOk laws_FnExactRankedFeatures.T8.2 laws_FnExactRankedFeatures.B8 = true := by kernel_rfl
def laws_FnExactRankedFeatures.T31 : Bool × List (List Nat × List Nat) := (true, [([], []), ([0], [0]), ([], []), ([2, 1], [2]), ([1, 3, 3], [1, 3]), ([4], [4]), ([5], [5]), ([5], [5]), ([6, 4, 0, 1, 2, 3, 4, 5, 6], [6]), ([7, 8, 0, 1, 2, 3, 4, 5, 6, 7, 8], [7])])
def laws_FnExactRankedFeatures.B31 : List Nat := [0, 1, 0, 7, 15, 31, 63, 63, 127, 511]
theorem laws_FnExactRankedFeatures.tab31 : rtab .any (opsOf Try.f10 31) = laws_FnExactRankedFeatures.T31 := by kernel_rfl
theorem laws_FnExactRankedFeatures.bits31 : waitsOk laws_FnExactRankedFeatures.T31.2 laws_FnExactRankedFeatures.B31 = true := by kernel_rfl
set_option maxHeartbeats 8000000 in
set_option maxRecDepth 100000 in
theorem laws_FnExactRankedFeatures.calls (k : Nat) (A0 : Option Addr) (c0 : Nat) (l0 : List (S24)) (a1_0 : ByteArray) (A1_1 : Option Addr) (c1_1 : Nat) (l1_1 : List Int) (r : Bool) (w : World) (hr0 : Kd.C k24 w A0 l0.length l0) (hc0 : l0.length ≤ c0) (hr1_1 : Kd.C (Kd.int .i64) w A1_1 l1_1.length l1_1) (hc1_1 : l1_1.length ≤ c1_1) (h : laws_FnExactRankedFeatures.f k l0 a1_0 l1_1 = some r) :
    Calls Try.prog 10 #[.slice A0 l0.length c0, .agg #[.string a1_0, .slice A1_1 l1_1.length c1_1]] w fun e w' => e = .returned (.bool r) ∧ Below w.heap.size w w' := by
  have hu24 := Try.underlying24
  have hu28 := Try.underlying28
  have HR0 := Aside0.mk hr0
  have HC0 := Aside0.mk hc0
  clear hr0 hc0
  have HR1_1 := Aside0.mk hr1_1
  have HC1_1 := Aside0.mk hc1_1
  clear hr1_1 hc1_1
  have HB := Aside0.mk (Below.refl w.heap.size w)
  have H : ((laws_szFeatureS.f k l0 1048576).bind fun t102 => (if t102 < 0 then (some true) else ((laws_szFeature.f a1_0 l1_1 t102).bind fun t103 => (if t103 < 0 then (some true) else ((laws_toFeatureS.f k l0).bind fun t104 => ((laws_toFeature.f k a1_0 l1_1).bind fun bt107 => ((spec_RankedFeatures.f k t104 bt107.1 bt107.2).bind fun bt111 => ((laws_toFeatureS.f k l0).bind fun t115 => ((laws_toFeature.f k a1_0 l1_1).bind fun bt118 => ((impl_RankedFeatures.f k t115 bt118.1 bt118.2).bind fun bt123 => ((laws_eqInt64S.f k bt123.1 bt111.1).bind fun t127 => (if t127 = true then (laws_FnExactRankedFeatures.j0 k l0 bt111.1 bt111.2 t115 bt123.1 bt123.2 (bt123.2 != bt111.2) a1_0 l1_1 bt118.1 bt118.2) else (laws_FnExactRankedFeatures.j0 k l0 bt111.1 bt111.2 t115 bt123.1 bt123.2 true a1_0 l1_1 bt118.1 bt118.2))))))))))))) = some r := h
  clear h
  replace H := Option.bind_eq_some_iff.mp H
  obtain ⟨t102, A30, H⟩ := H
  replace H : (if t102 < 0 then (some true) else ((laws_szFeature.f a1_0 l1_1 t102).bind fun t103 => (if t103 < 0 then (some true) else ((laws_toFeatureS.f k l0).bind fun t104 => ((laws_toFeature.f k a1_0 l1_1).bind fun bt107 => ((spec_RankedFeatures.f k t104 bt107.1 bt107.2).bind fun bt111 => ((laws_toFeatureS.f k l0).bind fun t115 => ((laws_toFeature.f k a1_0 l1_1).bind fun bt118 => ((impl_RankedFeatures.f k t115 bt118.1 bt118.2).bind fun bt123 => ((laws_eqInt64S.f k bt123.1 bt111.1).bind fun t127 => (if t127 = true then (laws_FnExactRankedFeatures.j0 k l0 bt111.1 bt111.2 t115 bt123.1 bt123.2 (bt123.2 != bt111.2) a1_0 l1_1 bt118.1 bt118.2) else (laws_FnExactRankedFeatures.j0 k l0 bt111.1 bt111.2 t115 bt123.1 bt123.2 true a1_0 l1_1 bt118.1 bt118.2)))))))))))) = some r := H
  have A3 := Aside0.mk A30
  clear A30
  have HC4 := Aside0.mk H
  clear H
  go_enter Try.func10, Try.ntmps10
  go_upto_if 21 with (first | ((with_reducible refine gate_dst (N := 3) rfl ?_); refine box_event ?hg (N := 3) ?hd (cs := #[.string a1_0, .slice A1_1 l1_1.length c1_1]) (t := 24) ?hr ?_; (case hd => rfl); (case hg => rfl); (case hr => first | (go_simp; done) | (go_simp; rfl)); intro gb101 hg w5 hbox hb; have n0_ := Aside0.mk (below_step (by repeat (first | (with_reducible first | exact HB.out | apply below_alloc | apply pw_below_drewN | apply below_drew1) | exact HB.out)) hb); have n1_ := Aside0.mk (hbox); have n2_ := Aside0.mk ((by rw [hg]; exact (below_size (by repeat (first | (with_reducible first | exact HB.out | apply below_alloc | apply pw_below_drewN | apply below_drew1) | exact HB.out))) : w.heap.size ≤ gb101)); have n3_ := Aside0.mk ((by rw [hg]; exact (below_size (by repeat (first | (with_reducible first | exact HB.out | apply below_alloc | apply pw_below_drewN | apply below_drew1) | exact HB.out))) : w.heap.size ≤ gb101)); clear HB; have HB := n0_; have BK101 := n1_; have GW101 := n2_; have GE101 := n3_; clear n0_ n1_ n2_ n3_; clear hb hbox hg) | ((with_reducible refine gate_callee (f := 17) rfl ?_); refine goesL_ (some 19) rfl rfl Try.func17 (by kernel_rfl) rfl #[.slice A0 l0.length c0, .int .i64 1048576] rfl (by (try simp only [List.map_toArray, List.map_cons, List.map_nil]); first | done | rfl | (simp only [List.length_drop, List.length_take]; rfl)) ?_; (with_reducible refine (laws_szFeatureS.calls k _ _ l0 1048576 t102 _ ?side1 ?side2 A3.out).mono ?_); (case side1 => repeat (first | exact (Kd.C_below HR0.out HB.out) | (with_reducible refine Kd.C_alloc ?_ _) | (with_reducible refine Kd.C_drewN ?_ _) | (with_reducible refine Kd.C_drew ?_))); (case side2 => exact HC0.out); rintro e w6 ⟨rfl, hb⟩; refine ⟨_, rfl, ?_⟩; have n0_ := Aside0.mk (blk_below (g := gb101) (o := .cells #[.string a1_0, .slice A1_1 l1_1.length c1_1] 24 (0, 0)) (by (with_reducible repeat (first | refine blk_drewN ?_ _ | refine blk_drew ?_ | refine blk_alloc ?_ _)); exact BK101.out) hb); have n1_ := Aside0.mk (below_step (by repeat (first | (with_reducible first | exact HB.out | apply below_alloc | apply pw_below_drewN | apply below_drew1 | refine below_set ?_ GE101.out) | exact HB.out)) hb); clear BK101; clear HB; have BK101 := n0_; have HB := n1_; clear n0_ n1_; (try clear hb); (try clear hb2); (try clear hk); (try clear hi)))
  (try simp only [Act.put, List.setIfInBounds_toArray, List.set_cons_zero, List.set_cons_succ])
  have H := HC4.out
  clear HC4
  by_cases c7 : t102 < 0
  · rw [if_pos c7] at H
    have c7b0 : decide (t102 < 0) = true := decide_eq_true c7
    clear c7
    (first | rw [c7b0] | (simp only [i64_w, i32_w]; rw [c7b0]) | (simp only [c7b2, Bool.not_true, Bool.not_false]) | (simp only [c7b1, Bool.not_true, Bool.not_false]) | (simp only [c7b0, Bool.not_true, Bool.not_false]) | skip)
    obtain rfl := Option.some.inj H
    go_wp2
    go_ret
    exact ⟨by first | rfl | (simp [errW_none, errW_some] <;> rfl) | (simp [*, errW_none, errW_some] <;> rfl), by repeat (first | (with_reducible first | exact HB.out | apply below_alloc | apply pw_below_drewN | apply below_drew1 | refine below_set ?_ GE101.out) | exact HB.out)⟩
  · rw [if_neg c7] at H
    have c7b0 : decide (t102 < 0) = false := decide_eq_false c7
    clear c7
    (first | rw [c7b0] | (simp only [i64_w, i32_w]; rw [c7b0]) | (simp only [c7b2, Bool.not_true, Bool.not_false]) | (simp only [c7b1, Bool.not_true, Bool.not_false]) | (simp only [c7b0, Bool.not_true, Bool.not_false]) | skip)
    replace H := Option.bind_eq_some_iff.mp H
    obtain ⟨t103, A80, H⟩ := H
    replace H : (if t103 < 0 then (some true) else ((laws_toFeatureS.f k l0).bind fun t104 => ((laws_toFeature.f k a1_0 l1_1).bind fun bt107 => ((spec_RankedFeatures.f k t104 bt107.1 bt107.2).bind fun bt111 => ((laws_toFeatureS.f k l0).bind fun t115 => ((laws_toFeature.f k a1_0 l1_1).bind fun bt118 => ((impl_RankedFeatures.f k t115 bt118.1 bt118.2).bind fun bt123 => ((laws_eqInt64S.f k bt123.1 bt111.1).bind fun t127 => (if t127 = true then (laws_FnExactRankedFeatures.j0 k l0 bt111.1 bt111.2 t115 bt123.1 bt123.2 (bt123.2 != bt111.2) a1_0 l1_1 bt118.1 bt118.2) else (laws_FnExactRankedFeatures.j0 k l0 bt111.1 bt111.2 t115 bt123.1 bt123.2 true a1_0 l1_1 bt118.1 bt118.2)))))))))) = some r := H
    have A8 := Aside0.mk A80
    clear A80
    have HC9 := Aside0.mk H
    clear H
    have hcz10_0 : w6.cell? ⟨gb101, 0, none⟩ = some (.string a1_0) := (blk_cell BK101.out 0).trans rfl
    have hcz10_1 : w6.cell? ⟨gb101, 1, none⟩ = some (.slice A1_1 l1_1.length c1_1) := (blk_cell BK101.out 1).trans rfl
    have hfz10_0 := blk_frozen BK101.out 0
    have hfz10_1 := blk_frozen BK101.out 1
    go_upto_if 26 with (first | ((with_reducible refine gate_callee (f := 12) rfl ?_); refine goesL_ (some 24) rfl rfl Try.func12 (by kernel_rfl) rfl #[.agg #[.string a1_0, .slice A1_1 l1_1.length c1_1], .int .i64 t102] rfl (by (try simp only [List.map_toArray, List.map_cons, List.map_nil]); first | done | rfl | (simp only [List.length_drop, List.length_take]; rfl)) ?_; (with_reducible refine (laws_szFeature.calls a1_0 _ _ l1_1 t102 t103 _ ?side1 ?side2 A8.out).mono ?_); (case side1 => repeat (first | exact (Kd.C_below HR1_1.out (by repeat (first | (with_reducible first | exact HB.out | apply below_alloc | apply pw_below_drewN | apply below_drew1 | refine below_set ?_ GE101.out) | exact HB.out))) | (with_reducible refine Kd.C_alloc ?_ _) | (with_reducible refine Kd.C_drewN ?_ _) | (with_reducible refine Kd.C_drew ?_))); (case side2 => exact HC1_1.out); rintro e w11 ⟨rfl, hb⟩; refine ⟨_, rfl, ?_⟩; have n0_ := Aside0.mk (blk_below (g := gb101) (o := .cells #[.string a1_0, .slice A1_1 l1_1.length c1_1] 24 (0, 0)) (by (with_reducible repeat (first | refine blk_drewN ?_ _ | refine blk_drew ?_ | refine blk_alloc ?_ _)); exact BK101.out) hb); have n1_ := Aside0.mk (below_step (by repeat (first | (with_reducible first | exact HB.out | apply below_alloc | apply pw_below_drewN | apply below_drew1 | refine below_set ?_ GE101.out) | exact HB.out)) hb); clear BK101; clear HB; have BK101 := n0_; have HB := n1_; clear n0_ n1_; (try clear hb); (try clear hb2); (try clear hk); (try clear hi)))
    (try simp only [Act.put, List.setIfInBounds_toArray, List.set_cons_zero, List.set_cons_succ])
    have H := HC9.out
    clear HC9
    by_cases c12 : t103 < 0
    · rw [if_pos c12] at H
      have c12b0 : decide (t103 < 0) = true := decide_eq_true c12
      clear c12
      (first | rw [c12b0] | (simp only [i64_w, i32_w]; rw [c12b0]) | (simp only [c12b2, Bool.not_true, Bool.not_false]) | (simp only [c12b1, Bool.not_true, Bool.not_false]) | (simp only [c12b0, Bool.not_true, Bool.not_false]) | skip)
      obtain rfl := Option.some.inj H
      go_wp2
      go_ret
      exact ⟨by first | rfl | (simp [errW_none, errW_some] <;> rfl) | (simp [*, errW_none, errW_some] <;> rfl), by repeat (first | (with_reducible first | exact HB.out | apply below_alloc | apply pw_below_drewN | apply below_drew1 | refine below_set ?_ GE101.out) | exact HB.out)⟩
    · rw [if_neg c12] at H
      have c12b0 : decide (t103 < 0) = false := decide_eq_false c12
      clear c12
      (first | rw [c12b0] | (simp only [i64_w, i32_w]; rw [c12b0]) | (simp only [c12b2, Bool.not_true, Bool.not_false]) | (simp only [c12b1, Bool.not_true, Bool.not_false]) | (simp only [c12b0, Bool.not_true, Bool.not_false]) | skip)
      replace H := Option.bind_eq_some_iff.mp H
      obtain ⟨t104, A130, H⟩ := H
      replace H : ((laws_toFeature.f k a1_0 l1_1).bind fun bt107 => ((spec_RankedFeatures.f k t104 bt107.1 bt107.2).bind fun bt111 => ((laws_toFeatureS.f k l0).bind fun t115 => ((laws_toFeature.f k a1_0 l1_1).bind fun bt118 => ((impl_RankedFeatures.f k t115 bt118.1 bt118.2).bind fun bt123 => ((laws_eqInt64S.f k bt123.1 bt111.1).bind fun t127 => (if t127 = true then (laws_FnExactRankedFeatures.j0 k l0 bt111.1 bt111.2 t115 bt123.1 bt123.2 (bt123.2 != bt111.2) a1_0 l1_1 bt118.1 bt118.2) else (laws_FnExactRankedFeatures.j0 k l0 bt111.1 bt111.2 t115 bt123.1 bt123.2 true a1_0 l1_1 bt118.1 bt118.2)))))))) = some r := H
      have A13 := Aside0.mk A130
      clear A130
      replace H := Option.bind_eq_some_iff.mp H
      obtain ⟨⟨t107, t108⟩, A140, H⟩ := H
      replace H : ((spec_RankedFeatures.f k t104 t107 t108).bind fun bt111 => ((laws_toFeatureS.f k l0).bind fun t115 => ((laws_toFeature.f k a1_0 l1_1).bind fun bt118 => ((impl_RankedFeatures.f k t115 bt118.1 bt118.2).bind fun bt123 => ((laws_eqInt64S.f k bt123.1 bt111.1).bind fun t127 => (if t127 = true then (laws_FnExactRankedFeatures.j0 k l0 bt111.1 bt111.2 t115 bt123.1 bt123.2 (bt123.2 != bt111.2) a1_0 l1_1 bt118.1 bt118.2) else (laws_FnExactRankedFeatures.j0 k l0 bt111.1 bt111.2 t115 bt123.1 bt123.2 true a1_0 l1_1 bt118.1 bt118.2))))))) = some r := H
      have A14 := Aside0.mk A140
      clear A140
      replace H := Option.bind_eq_some_iff.mp H
      obtain ⟨⟨t111, t114⟩, A150, H⟩ := H
      replace H : ((laws_toFeatureS.f k l0).bind fun t115 => ((laws_toFeature.f k a1_0 l1_1).bind fun bt118 => ((impl_RankedFeatures.f k t115 bt118.1 bt118.2).bind fun bt123 => ((laws_eqInt64S.f k bt123.1 t111).bind fun t127 => (if t127 = true then (laws_FnExactRankedFeatures.j0 k l0 t111 t114 t115 bt123.1 bt123.2 (bt123.2 != t114) a1_0 l1_1 bt118.1 bt118.2) else (laws_FnExactRankedFeatures.j0 k l0 t111 t114 t115 bt123.1 bt123.2 true a1_0 l1_1 bt118.1 bt118.2)))))) = some r := H
      have A15 := Aside0.mk A150
      clear A150
      replace H := Option.bind_eq_some_iff.mp H
      obtain ⟨t115, A160, H⟩ := H
      replace H : ((laws_toFeature.f k a1_0 l1_1).bind fun bt118 => ((impl_RankedFeatures.f k t115 bt118.1 bt118.2).bind fun bt123 => ((laws_eqInt64S.f k bt123.1 t111).bind fun t127 => (if t127 = true then (laws_FnExactRankedFeatures.j0 k l0 t111 t114 t115 bt123.1 bt123.2 (bt123.2 != t114) a1_0 l1_1 bt118.1 bt118.2) else (laws_FnExactRankedFeatures.j0 k l0 t111 t114 t115 bt123.1 bt123.2 true a1_0 l1_1 bt118.1 bt118.2))))) = some r := H
      have A16 := Aside0.mk A160
      clear A160
      replace H := Option.bind_eq_some_iff.mp H
      obtain ⟨⟨t118, t119⟩, A170, H⟩ := H
      replace H : ((impl_RankedFeatures.f k t115 t118 t119).bind fun bt123 => ((laws_eqInt64S.f k bt123.1 t111).bind fun t127 => (if t127 = true then (laws_FnExactRankedFeatures.j0 k l0 t111 t114 t115 bt123.1 bt123.2 (bt123.2 != t114) a1_0 l1_1 t118 t119) else (laws_FnExactRankedFeatures.j0 k l0 t111 t114 t115 bt123.1 bt123.2 true a1_0 l1_1 t118 t119)))) = some r := H
      have A17 := Aside0.mk A170
      clear A170
      replace H := Option.bind_eq_some_iff.mp H
      obtain ⟨⟨t123, t126⟩, A180, H⟩ := H
      replace H : ((laws_eqInt64S.f k t123 t111).bind fun t127 => (if t127 = true then (laws_FnExactRankedFeatures.j0 k l0 t111 t114 t115 t123 t126 (t126 != t114) a1_0 l1_1 t118 t119) else (laws_FnExactRankedFeatures.j0 k l0 t111 t114 t115 t123 t126 true a1_0 l1_1 t118 t119))) = some r := H
      have A18 := Aside0.mk A180
      clear A180
      have HC19 := Aside0.mk H
      clear H
      try go_wp2
      (try (rw [drewN_self w11]; generalize hq_ : World.drewN w11 _ = w11; have n0_ : Aside0 (w11.heap[gb101]? = some (.cells #[.string a1_0, .slice A1_1 l1_1.length c1_1] 24 (0, 0))) := ⟨by rw [← hq_]; exact (by (with_reducible repeat (first | refine blk_drewN ?_ _ | refine blk_drew ?_ | refine blk_alloc ?_ _)); exact BK101.out)⟩; have n1_ : Aside0 (Below w.heap.size w w11) := ⟨by rw [← hq_]; exact (by repeat (first | (with_reducible first | exact HB.out | apply below_alloc | apply pw_below_drewN | apply below_drew1 | refine below_set ?_ GE101.out) | exact HB.out))⟩; clear BK101 HB hq_; have BK101 := n0_; have HB := n1_; clear n0_ n1_))
      have n0_ := Aside0.mk (blk_drew BK101.out)
      have n1_ := Aside0.mk (below_drew1 HB.out)
      clear BK101
      clear HB
      have BK101 := n0_
      have HB := n1_
      clear n0_ n1_
      refine start_ (n := 10) (S := fun w' => w'.cell? ⟨gb101, 0, none⟩ = some (.string a1_0) ∧ w'.cell? ⟨gb101, 1, none⟩ = some (.slice A1_1 l1_1.length c1_1)) (ds := []) #[false, false, false, false, false, false, false, false, false, false] (by kernel_rfl) rfl rfl ⟨(blk_cell BK101.out 0).trans rfl, (blk_cell BK101.out 1).trans rfl⟩ (fun hHeld => ?_); refine with_tabW laws_FnExactRankedFeatures.tab8 laws_FnExactRankedFeatures.bits8 (fun HT_ HW_ => ?_)
      generalize w11.drew = w20 at BK101 HB hHeld ⊢
      refine pure_ (i := 0) (N := some 28) (v := ?_) (a' := ?_) #[true, false, false, false, false, false, false, false, false, false] rfl rfl (any_of HT_.out (by kernel_rfl)) (fun _ _ _ h => h) (Or.inl ⟨by rfl, ?_⟩) ?_ ?_
      rotate_left
      · intro w'
        go_simp
        with_reducible rfl
      rotate_left
      · simp only [Act.put, List.setIfInBounds_toArray, List.set_cons_zero, List.set_cons_succ, i64_w, i32_w]
        rfl
      refine take_ (i := 2) (N := some 30) (v := ?_) (a' := ?_) #[true, false, true, false, false, false, false, false, false, false] rfl rfl (take_ofW HT_.out HW_.out (by kernel_rfl)) (fun _ _ _ h => h) (Or.inl ⟨by rfl, ?_⟩) hHeld ?_ ?_
      rotate_left
      · rintro w' ⟨s0, s1⟩
        go_simp
        with_reducible rfl
      rotate_left
      · simp only [Act.put, List.setIfInBounds_toArray, List.set_cons_zero, List.set_cons_succ, i64_w, i32_w]
        rfl
      refine one_ (i := 1) (N := some 29) #[true, true, true, false, false, false, false, false, false, false] rfl rfl (one_of HT_.out (by kernel_rfl)) (by decide) (fun K hK => ?_)
      (first | refine goes_ Try.func19 (by kernel_rfl) rfl #[.slice A0 l0.length c0] (by rfl) rfl rfl (by (try simp only [List.map_toArray, List.map_cons, List.map_nil]); first | done | rfl | (simp only [List.length_drop, List.length_take]; rfl)) ?_ | refine RPW.goesV_ Try.func19 (by kernel_rfl) rfl #[.slice A0 l0.length c0] (by rfl) rfl rfl rfl (by (try simp only [List.map_toArray, List.map_cons, List.map_nil]); first | done | rfl | (simp only [List.length_drop, List.length_take]; rfl)) ?_ | refine RPW.goesC_ Try.func19 (by kernel_rfl) rfl #[.slice A0 l0.length c0] (by rfl) rfl rfl rfl (by (try simp only [List.map_toArray, List.map_cons, List.map_nil]); first | done | rfl | (simp only [List.length_drop, List.length_take]; rfl)) ?_)
      with_reducible refine (laws_toFeatureS.calls k _ _ l0 t104 _ ?side1 ?side2 A13.out).mono ?_
      (case side1 => repeat (first | exact (Kd.C_below HR0.out HB.out) | (with_reducible refine Kd.C_alloc ?_ _) | (with_reducible refine Kd.C_drewN ?_ _) | (with_reducible refine Kd.C_drew ?_)))
      (case side2 => exact HC0.out)
      rintro e w21 ⟨v105, rfl, ho0, hb⟩
      refine ⟨_, rfl, ?_⟩
      have n0_ := Aside0.mk (Kd.S_lower ho0 (below_size (by repeat (first | (with_reducible first | exact HB.out | apply below_alloc | apply pw_below_drewN | apply below_drew1 | refine below_set ?_ GE101.out) | exact HB.out))))
      have n1_ := Aside0.mk (blk_below (g := gb101) (o := .cells #[.string a1_0, .slice A1_1 l1_1.length c1_1] 24 (0, 0)) (by (with_reducible repeat (first | refine blk_drewN ?_ _ | refine blk_drew ?_ | refine blk_alloc ?_ _)); exact BK101.out) hb)
      have n2_ := Aside0.mk (below_step (by repeat (first | (with_reducible first | exact HB.out | apply below_alloc | apply pw_below_drewN | apply below_drew1 | refine below_set ?_ GE101.out) | exact HB.out)) hb)
      clear BK101
      clear HB
      have HO106 := n0_
      have BK101 := n1_
      have HB := n2_
      clear n0_ n1_ n2_
      (try clear hb)
      (try clear hb2)
      (try clear hk)
      (try clear hi)
      (try clear ho0)
      refine hK.out _ _ ⟨(blk_cell BK101.out 0).trans rfl, (blk_cell BK101.out 1).trans rfl⟩ (fun hHeld => ?_)
      clear hK K
      refine norm_ (a' := ?_) ?_ ?_
      rotate_left
      · show Act.put _ (some 29) _ = _
        simp only [Act.put, List.setIfInBounds_toArray, List.set_cons_zero, List.set_cons_succ, i64_w, i32_w]
        rfl
      refine one_ (i := 3) (N := some 31) #[true, true, true, true, false, false, false, false, false, false] rfl rfl (one_of HT_.out (by kernel_rfl)) (by decide) (fun K hK => ?_)
      (first | refine goes_ Try.func14 (by kernel_rfl) rfl #[.agg #[.string a1_0, .slice A1_1 l1_1.length c1_1]] (by rfl) rfl rfl (by (try simp only [List.map_toArray, List.map_cons, List.map_nil]); first | done | rfl | (simp only [List.length_drop, List.length_take]; rfl)) ?_ | refine RPW.goesV_ Try.func14 (by kernel_rfl) rfl #[.agg #[.string a1_0, .slice A1_1 l1_1.length c1_1]] (by rfl) rfl rfl rfl (by (try simp only [List.map_toArray, List.map_cons, List.map_nil]); first | done | rfl | (simp only [List.length_drop, List.length_take]; rfl)) ?_ | refine RPW.goesC_ Try.func14 (by kernel_rfl) rfl #[.agg #[.string a1_0, .slice A1_1 l1_1.length c1_1]] (by rfl) rfl rfl rfl (by (try simp only [List.map_toArray, List.map_cons, List.map_nil]); first | done | rfl | (simp only [List.length_drop, List.length_take]; rfl)) ?_)
      with_reducible refine (laws_toFeature.calls k a1_0 _ _ l1_1 t107 t108 _ ?side1 ?side2 A14.out).mono ?_
      (case side1 => repeat (first | exact (Kd.C_below HR1_1.out HB.out) | (with_reducible refine Kd.C_alloc ?_ _) | (with_reducible refine Kd.C_drewN ?_ _) | (with_reducible refine Kd.C_drew ?_)))
      (case side2 => exact HC1_1.out)
      rintro e w22 ⟨v109, rfl, ho0, hb⟩
      refine ⟨_, rfl, ?_⟩
      have n0_ := Aside0.mk (Kd.S_elder' (by (with_reducible repeat (first | apply Kd.S_alloc | apply Kd.S_drewN | apply Kd.S_drew)); exact HO106.out) (Kd.R_base ho0) hb)
      have n1_ := Aside0.mk (Kd.R_lower ho0 (below_size (by repeat (first | (with_reducible first | exact HB.out | apply below_alloc | apply pw_below_drewN | apply below_drew1 | refine below_set ?_ GE101.out) | exact HB.out))))
      have n2_ := Aside0.mk (blk_below (g := gb101) (o := .cells #[.string a1_0, .slice A1_1 l1_1.length c1_1] 24 (0, 0)) (by (with_reducible repeat (first | refine blk_drewN ?_ _ | refine blk_drew ?_ | refine blk_alloc ?_ _)); exact BK101.out) hb)
      have n3_ := Aside0.mk (below_step (by repeat (first | (with_reducible first | exact HB.out | apply below_alloc | apply pw_below_drewN | apply below_drew1 | refine below_set ?_ GE101.out) | exact HB.out)) hb)
      clear HO106
      clear BK101
      clear HB
      have HO106 := n0_
      have HO110 := n1_
      have BK101 := n2_
      have HB := n3_
      clear n0_ n1_ n2_ n3_
      (try clear hb)
      (try clear hb2)
      (try clear hk)
      (try clear hi)
      (try clear ho0)
      obtain ⟨Ao23, co23, eo23⟩ := Kd.S_slice HO106.out
      (first | subst eo23 | (injection eo23 with f1_ f2_ f3_; have f4_ := f1_.symm; have f5_ := f3_.symm; clear f1_ f2_ f3_; subst f4_; subst f5_))
      obtain ⟨Ao24, co24, eo24⟩ := Kd.R_slice HO110.out
      (first | subst eo24 | (injection eo24 with f1_ f2_ f3_; have f4_ := f1_.symm; have f5_ := f3_.symm; clear f1_ f2_ f3_; subst f4_; subst f5_))
      refine hK.out _ _ ⟨(blk_cell BK101.out 0).trans rfl, (blk_cell BK101.out 1).trans rfl⟩ (fun hHeld => ?_)
      clear hK K
      refine norm_ (a' := ?_) ?_ ?_
      rotate_left
      · show Act.put _ (some 31) _ = _
        simp only [Act.put, List.setIfInBounds_toArray, List.set_cons_zero, List.set_cons_succ, i64_w, i32_w]
        rfl
      refine one_ (i := 4) (N := some 32) #[true, true, true, true, true, false, false, false, false, false] rfl rfl (one_of HT_.out (by kernel_rfl)) (by decide) (fun K hK => ?_)
      (first | refine goes_ Try.func44 (by kernel_rfl) rfl #[.slice Ao23 t104.length co23, .agg #[.string t107, .slice Ao24 t108.length co24]] (by rfl) rfl rfl (by (try simp only [List.map_toArray, List.map_cons, List.map_nil]); first | done | rfl | (simp only [List.length_drop, List.length_take]; rfl)) ?_ | refine RPW.goesV_ Try.func44 (by kernel_rfl) rfl #[.slice Ao23 t104.length co23, .agg #[.string t107, .slice Ao24 t108.length co24]] (by rfl) rfl rfl rfl (by (try simp only [List.map_toArray, List.map_cons, List.map_nil]); first | done | rfl | (simp only [List.length_drop, List.length_take]; rfl)) ?_ | refine RPW.goesC_ Try.func44 (by kernel_rfl) rfl #[.slice Ao23 t104.length co23, .agg #[.string t107, .slice Ao24 t108.length co24]] (by rfl) rfl rfl rfl (by (try simp only [List.map_toArray, List.map_cons, List.map_nil]); first | done | rfl | (simp only [List.length_drop, List.length_take]; rfl)) ?_)
      with_reducible refine (spec_RankedFeatures.calls k _ _ t104 t107 _ _ t108 t111 t114 _ ?side1 ?side2 ?side3 ?side4 A15.out).mono ?_
      (case side1 => repeat (first | exact (Kd.S_reads' HO106.out).2.2 | (with_reducible refine Kd.C_alloc ?_ _) | (with_reducible refine Kd.C_drewN ?_ _) | (with_reducible refine Kd.C_drew ?_)))
      (case side2 => exact (Kd.S_reads' HO106.out).2.1)
      (case side3 => repeat (first | exact (Kd.R_reads' HO110.out).2.2 | (with_reducible refine Kd.C_alloc ?_ _) | (with_reducible refine Kd.C_drewN ?_ _) | (with_reducible refine Kd.C_drew ?_)))
      (case side4 => exact (Kd.R_reads' HO110.out).2.1)
      rintro e w25 ⟨v112, rfl, ho0, hb⟩
      refine ⟨_, rfl, ?_⟩
      have n0_ := Aside0.mk (Kd.S_elder' (by (with_reducible repeat (first | apply Kd.S_alloc | apply Kd.S_drewN | apply Kd.S_drew)); exact HO106.out) (Kd.R_base ho0) hb)
      have n1_ := Aside0.mk (Kd.R_elder' (by (with_reducible repeat (first | apply Kd.R_alloc | apply Kd.R_drewN | apply Kd.R_drew)); exact HO110.out) (Kd.R_base ho0) hb)
      have n2_ := Aside0.mk (Kd.R_lower (Kd.R_new' ho0 (Kd.R_lt (by (with_reducible repeat (first | apply Kd.R_alloc | apply Kd.R_drewN | apply Kd.R_drew)); exact HO110.out))) (below_size (by repeat (first | (with_reducible first | exact HB.out | apply below_alloc | apply pw_below_drewN | apply below_drew1 | refine below_set ?_ GE101.out) | exact HB.out))))
      have n3_ := Aside0.mk (blk_below (g := gb101) (o := .cells #[.string a1_0, .slice A1_1 l1_1.length c1_1] 24 (0, 0)) (by (with_reducible repeat (first | refine blk_drewN ?_ _ | refine blk_drew ?_ | refine blk_alloc ?_ _)); exact BK101.out) hb)
      have n4_ := Aside0.mk (below_step (by repeat (first | (with_reducible first | exact HB.out | apply below_alloc | apply pw_below_drewN | apply below_drew1 | refine below_set ?_ GE101.out) | exact HB.out)) hb)
      clear HO106
      clear HO110
      clear BK101
      clear HB
      have HO106 := n0_
      have HO110 := n1_
      have HO113 := n2_
      have BK101 := n3_
      have HB := n4_
      clear n0_ n1_ n2_ n3_ n4_
      (try clear hb)
      (try clear hb2)
      (try clear hk)
      (try clear hi)
      (try clear ho0)
      refine hK.out _ _ ⟨(blk_cell BK101.out 0).trans rfl, (blk_cell BK101.out 1).trans rfl⟩ (fun hHeld => ?_)
      clear hK K
      refine norm_ (a' := ?_) ?_ ?_
      rotate_left
      · show Act.put _ (some 32) _ = _
        simp only [Act.put, List.setIfInBounds_toArray, List.set_cons_zero, List.set_cons_succ, i64_w, i32_w]
        rfl
      refine pure_ (i := 5) (N := some 27) (v := ?_) (a' := ?_) #[true, true, true, true, true, true, false, false, false, false] rfl rfl (any_of HT_.out (by kernel_rfl)) (fun _ _ _ h => h) (Or.inl ⟨by rfl, ?_⟩) ?_ ?_
      rotate_left
      · intro w'
        go_simp
        with_reducible rfl
      rotate_left
      · simp only [Act.put, List.setIfInBounds_toArray, List.set_cons_zero, List.set_cons_succ, i64_w, i32_w]
        rfl
      refine pure_ (i := 6) (N := some 33) (v := ?_) (a' := ?_) #[true, true, true, true, true, true, true, false, false, false] rfl rfl (any_of HT_.out (by kernel_rfl)) (fun _ _ _ h => h) (Or.inl ⟨by rfl, ?_⟩) ?_ ?_
      rotate_left
      · intro w'
        go_simp
        with_reducible rfl
      rotate_left
      · simp only [Act.put, List.setIfInBounds_toArray, List.set_cons_zero, List.set_cons_succ, i64_w, i32_w]
        rfl
      refine pure_ (i := 7) (N := some 34) (v := ?_) (a' := ?_) #[true, true, true, true, true, true, true, true, false, false] rfl rfl (any_of HT_.out (by kernel_rfl)) (fun _ _ _ h => h) (Or.inl ⟨by rfl, ?_⟩) ?_ ?_
      rotate_left
      · intro w'
        go_simp
        with_reducible rfl
      rotate_left
      · simp only [Act.put, List.setIfInBounds_toArray, List.set_cons_zero, List.set_cons_succ, i64_w, i32_w]
        rfl
      refine pure_ (i := 8) (N := some 6) (v := ?_) (a' := ?_) #[true, true, true, true, true, true, true, true, true, false] rfl rfl (any_of HT_.out (by kernel_rfl)) (fun _ _ _ h => h) (Or.inl ⟨by rfl, ?_⟩) ?_ ?_
      rotate_left
      · intro w'
        go_simp
        with_reducible rfl
      rotate_left
      · simp only [Act.put, List.setIfInBounds_toArray, List.set_cons_zero, List.set_cons_succ, i64_w, i32_w]
        rfl
      refine pure_ (i := 9) (N := some 7) (v := ?_) (a' := ?_) #[true, true, true, true, true, true, true, true, true, true] rfl rfl (any_of HT_.out (by kernel_rfl)) (fun _ _ _ h => h) (Or.inl ⟨by rfl, ?_⟩) ?_ ?_
      rotate_left
      · intro w'
        go_simp
        with_reducible rfl
      rotate_left
      · simp only [Act.put, List.setIfInBounds_toArray, List.set_cons_zero, List.set_cons_succ, i64_w, i32_w]
        rfl
      refine done_ (done_of HT_.out (by kernel_rfl)) ?_
      go_upto_region 12 with (first | ((with_reducible refine gate_callee (f := 19) rfl ?_); refine goesL_ (some 36) rfl rfl Try.func19 (by kernel_rfl) rfl #[.slice A0 l0.length c0] rfl (by (try simp only [List.map_toArray, List.map_cons, List.map_nil]); first | done | rfl | (simp only [List.length_drop, List.length_take]; rfl)) ?_; (with_reducible refine (laws_toFeatureS.calls k _ _ l0 t115 _ ?side1 ?side2 A16.out).mono ?_); (case side1 => repeat (first | exact (Kd.C_below HR0.out HB.out) | (with_reducible refine Kd.C_alloc ?_ _) | (with_reducible refine Kd.C_drewN ?_ _) | (with_reducible refine Kd.C_drew ?_))); (case side2 => exact HC0.out); rintro e w26 ⟨v116, rfl, ho0, hb⟩; refine ⟨_, rfl, ?_⟩; have n0_ := Aside0.mk (Kd.S_elder' (by (with_reducible repeat (first | apply Kd.S_alloc | apply Kd.S_drewN | apply Kd.S_drew)); exact HO106.out) (Kd.S_base ho0) hb); have n1_ := Aside0.mk (Kd.R_below (by (with_reducible repeat (first | apply Kd.R_alloc | apply Kd.R_drewN | apply Kd.R_drew)); exact HO110.out) hb); have n2_ := Aside0.mk (Kd.R_below (by (with_reducible repeat (first | apply Kd.R_alloc | apply Kd.R_drewN | apply Kd.R_drew)); exact HO113.out) hb); have n3_ := Aside0.mk (Kd.S_lower (Kd.S_new' (Kd.S_new' (Kd.S_new' ho0 (Kd.S_lt (by (with_reducible repeat (first | apply Kd.S_alloc | apply Kd.S_drewN | apply Kd.S_drew)); exact HO106.out))) (Kd.R_lt (by (with_reducible repeat (first | apply Kd.R_alloc | apply Kd.R_drewN | apply Kd.R_drew)); exact HO110.out))) (Kd.R_lt (by (with_reducible repeat (first | apply Kd.R_alloc | apply Kd.R_drewN | apply Kd.R_drew)); exact HO113.out))) (below_size (by repeat (first | (with_reducible first | exact HB.out | apply below_alloc | apply pw_below_drewN | apply below_drew1 | refine below_set ?_ GE101.out) | exact HB.out)))); have n4_ := Aside0.mk (blk_below (g := gb101) (o := .cells #[.string a1_0, .slice A1_1 l1_1.length c1_1] 24 (0, 0)) (by (with_reducible repeat (first | refine blk_drewN ?_ _ | refine blk_drew ?_ | refine blk_alloc ?_ _)); exact BK101.out) hb); have n5_ := Aside0.mk (below_step (by repeat (first | (with_reducible first | exact HB.out | apply below_alloc | apply pw_below_drewN | apply below_drew1 | refine below_set ?_ GE101.out) | exact HB.out)) hb); clear HO106; clear HO110; clear HO113; clear BK101; clear HB; have HO106 := n0_; have HO110 := n1_; have HO113 := n2_; have HO117 := n3_; have BK101 := n4_; have HB := n5_; clear n0_ n1_ n2_ n3_ n4_ n5_; (try clear hb); (try clear hb2); (try clear hk); (try clear hi); (try clear ho0); have hcz27_0 : w26.cell? ⟨gb101, 0, none⟩ = some (.string a1_0) := (blk_cell BK101.out 0).trans rfl; have hcz27_1 : w26.cell? ⟨gb101, 1, none⟩ = some (.slice A1_1 l1_1.length c1_1) := (blk_cell BK101.out 1).trans rfl; have hfz27_0 := blk_frozen BK101.out 0; have hfz27_1 := blk_frozen BK101.out 1) | ((with_reducible refine gate_callee (f := 14) rfl ?_); refine goesL_ (some 38) rfl rfl Try.func14 (by kernel_rfl) rfl #[.agg #[.string a1_0, .slice A1_1 l1_1.length c1_1]] rfl (by (try simp only [List.map_toArray, List.map_cons, List.map_nil]); first | done | rfl | (simp only [List.length_drop, List.length_take]; rfl)) ?_; (with_reducible refine (laws_toFeature.calls k a1_0 _ _ l1_1 t118 t119 _ ?side1 ?side2 A17.out).mono ?_); (case side1 => repeat (first | exact (Kd.C_below HR1_1.out HB.out) | (with_reducible refine Kd.C_alloc ?_ _) | (with_reducible refine Kd.C_drewN ?_ _) | (with_reducible refine Kd.C_drew ?_))); (case side2 => exact HC1_1.out); rintro e w28 ⟨v120, rfl, ho0, hb⟩; refine ⟨_, rfl, ?_⟩; have n0_ := Aside0.mk (Kd.S_elder' (by (with_reducible repeat (first | apply Kd.S_alloc | apply Kd.S_drewN | apply Kd.S_drew)); exact HO106.out) (Kd.R_base ho0) hb); have n1_ := Aside0.mk (Kd.R_elder' (by (with_reducible repeat (first | apply Kd.R_alloc | apply Kd.R_drewN | apply Kd.R_drew)); exact HO110.out) (Kd.R_base ho0) hb); have n2_ := Aside0.mk (Kd.R_elder' (by (with_reducible repeat (first | apply Kd.R_alloc | apply Kd.R_drewN | apply Kd.R_drew)); exact HO113.out) (Kd.R_base ho0) hb); have n3_ := Aside0.mk (Kd.S_elder' (by (with_reducible repeat (first | apply Kd.S_alloc | apply Kd.S_drewN | apply Kd.S_drew)); exact HO117.out) (Kd.R_base ho0) hb); have n4_ := Aside0.mk (Kd.R_lower (Kd.R_new' (Kd.R_new' ho0 (Kd.R_lt (by (with_reducible repeat (first | apply Kd.R_alloc | apply Kd.R_drewN | apply Kd.R_drew)); exact HO110.out))) (Kd.R_lt (by (with_reducible repeat (first | apply Kd.R_alloc | apply Kd.R_drewN | apply Kd.R_drew)); exact HO113.out))) (below_size (by repeat (first | (with_reducible first | exact HB.out | apply below_alloc | apply pw_below_drewN | apply below_drew1 | refine below_set ?_ GE101.out) | exact HB.out)))); have n5_ := Aside0.mk (blk_below (g := gb101) (o := .cells #[.string a1_0, .slice A1_1 l1_1.length c1_1] 24 (0, 0)) (by (with_reducible repeat (first | refine blk_drewN ?_ _ | refine blk_drew ?_ | refine blk_alloc ?_ _)); exact BK101.out) hb); have n6_ := Aside0.mk (below_step (by repeat (first | (with_reducible first | exact HB.out | apply below_alloc | apply pw_below_drewN | apply below_drew1 | refine below_set ?_ GE101.out) | exact HB.out)) hb); clear HO106; clear HO110; clear HO113; clear HO117; clear BK101; clear HB; have HO106 := n0_; have HO110 := n1_; have HO113 := n2_; have HO117 := n3_; have HO121 := n4_; have BK101 := n5_; have HB := n6_; clear n0_ n1_ n2_ n3_ n4_ n5_ n6_; (try clear hb); (try clear hb2); (try clear hk); (try clear hi); (try clear ho0)) | ((with_reducible refine gate_dst (N := 9) rfl ?_); refine box_event ?hg (N := 9) ?hd (cs := #[.string (⟨#[]⟩ : ByteArray), .slice none 0 0]) (t := 28) ?hr ?_; (case hd => rfl); (case hg => rfl); (case hr => first | (go_simp; done) | (go_simp; rfl)); intro gb122 hg w29 hbox hb; have n0_ := Aside0.mk (Kd.S_below (Kd.S_elderB (by (with_reducible repeat (first | apply Kd.S_alloc | apply Kd.S_drewN | apply Kd.S_drew)); exact HO106.out) gb122 (Nat.le_of_eq hg.symm)) hb); have n1_ := Aside0.mk (Kd.R_below (by (with_reducible repeat (first | apply Kd.R_alloc | apply Kd.R_drewN | apply Kd.R_drew)); exact HO110.out) hb); have n2_ := Aside0.mk (Kd.R_below (by (with_reducible repeat (first | apply Kd.R_alloc | apply Kd.R_drewN | apply Kd.R_drew)); exact HO113.out) hb); have n3_ := Aside0.mk (Kd.S_below (Kd.S_elderB (by (with_reducible repeat (first | apply Kd.S_alloc | apply Kd.S_drewN | apply Kd.S_drew)); exact HO117.out) gb122 (Nat.le_of_eq hg.symm)) hb); have n4_ := Aside0.mk (Kd.R_below (by (with_reducible repeat (first | apply Kd.R_alloc | apply Kd.R_drewN | apply Kd.R_drew)); exact HO121.out) hb); have n5_ := Aside0.mk (blk_below (g := gb101) (o := .cells #[.string a1_0, .slice A1_1 l1_1.length c1_1] 24 (0, 0)) (by (with_reducible repeat (first | refine blk_drewN ?_ _ | refine blk_drew ?_ | refine blk_alloc ?_ _)); exact BK101.out) hb); have n6_ := Aside0.mk (below_step (by repeat (first | (with_reducible first | exact HB.out | apply below_alloc | apply pw_below_drewN | apply below_drew1 | refine below_set ?_ GE101.out) | exact HB.out)) hb); have n7_ := Aside0.mk (hbox); have n8_ := Aside0.mk ((by rw [hg]; exact (below_size (by repeat (first | (with_reducible first | exact HB.out | apply below_alloc | apply pw_below_drewN | apply below_drew1 | refine below_set ?_ GE101.out) | exact HB.out))) : w.heap.size ≤ gb122)); have n9_ := Aside0.mk ((by rw [hg]; exact (below_size (by repeat (first | (with_reducible first | exact HB.out | apply below_alloc | apply pw_below_drewN | apply below_drew1 | refine below_set ?_ GE101.out) | exact HB.out))) : w.heap.size ≤ gb122)); have n10_ := Aside0.mk ((by rw [hg]; exact Nat.ne_of_lt (blk_lt (g := gb101) (o := .cells #[.string a1_0, .slice A1_1 l1_1.length c1_1] 24 (0, 0)) (by (with_reducible repeat (first | refine blk_drewN ?_ _ | refine blk_drew ?_ | refine blk_alloc ?_ _)); exact BK101.out)) : gb101 ≠ gb122)); have n11_ := Aside0.mk ((by rw [hg]; exact Nat.ne_of_gt (blk_lt (g := gb101) (o := .cells #[.string a1_0, .slice A1_1 l1_1.length c1_1] 24 (0, 0)) (by (with_reducible repeat (first | refine blk_drewN ?_ _ | refine blk_drew ?_ | refine blk_alloc ?_ _)); exact BK101.out)) : gb122 ≠ gb101)); clear HO106; clear HO110; clear HO113; clear HO117; clear HO121; clear BK101; clear HB; have HO106 := n0_; have HO110 := n1_; have HO113 := n2_; have HO117 := n3_; have HO121 := n4_; have BK101 := n5_; have HB := n6_; have BK122 := n7_; have GW122 := n8_; have GE122 := n9_; have NB101_122 := n10_; have NB122_101 := n11_; clear n0_ n1_ n2_ n3_ n4_ n5_ n6_ n7_ n8_ n9_ n10_ n11_; clear hb hbox hg; have hnb30 := NB122_101.out; have hnc30 := NB101_122.out; have hcz31_0 : w29.cell? ⟨gb122, 0, none⟩ = some (.string (⟨#[]⟩ : ByteArray)) := (blk_cell BK122.out 0).trans rfl; have hcz31_1 : w29.cell? ⟨gb122, 1, none⟩ = some (.slice none 0 0) := (blk_cell BK122.out 1).trans rfl; have hfz31_0 := blk_frozen BK122.out 0; have hfz31_1 := blk_frozen BK122.out 1; obtain ⟨Ao32, co32, eo32⟩ := Kd.R_slice HO121.out; subst eo32; obtain ⟨Ao33, co33, eo33⟩ := Kd.S_slice HO117.out; subst eo33) | ((with_reducible refine gate_callee (f := 40) rfl ?_); refine goesL_ (some 42) rfl rfl Try.func40 (by kernel_rfl) rfl #[.slice Ao33 t115.length co33, .agg #[.string t118, .slice Ao32 t119.length co32]] rfl (by (try simp only [List.map_toArray, List.map_cons, List.map_nil]); first | done | rfl | (simp only [List.length_drop, List.length_take]; rfl)) ?_; (with_reducible refine (impl_RankedFeatures.calls k _ _ t115 t118 _ _ t119 t123 t126 _ ?side1 ?side2 ?side3 ?side4 A18.out).mono ?_); (case side1 => refine (Kd.S_reads' (e := 28) (base := w.heap.size) (ok := fun k_ => (((((True ∧ some k_ ≠ (.slice Ao23 t104.length co23 : Value).ownBlock) ∧ some k_ ≠ (.slice Ao24 t108.length co24 : Value).ownBlock) ∧ some k_ ≠ (v112 : Value).ownBlock) ∧ some k_ ≠ (.slice Ao32 t119.length co32 : Value).ownBlock) ∧ k_ ≠ gb122)) (n := t115.length) (c := co33) ?_).2.2; exact (by (with_reducible repeat (first | apply Kd.S_alloc | apply Kd.S_drewN | apply Kd.S_drew)); exact (Kd.S_mono (Kd.S_far (p := ⟨gb122, 1, none⟩) (Kd.S_far (p := ⟨gb122, 0, none⟩) (Kd.S_mono HO117.out (fun k_ hk => (⟨hk, hk.2⟩ : _ ∧ k_ ≠ gb122))) (fun _ hk => hk.2) (.string t118)) (fun _ hk => hk.2) (.slice Ao32 t119.length co32)) (fun _ h_ => h_.1)))); (case side2 => exact (Kd.S_reads' HO117.out).2.1); (case side3 => refine (Kd.R_reads' (e := 2) (base := w.heap.size) (ok := fun k_ => ((True ∧ some k_ ≠ (.slice Ao24 t108.length co24 : Value).ownBlock) ∧ some k_ ≠ (v112 : Value).ownBlock)) (n := t119.length) (c := co32) ?_).2.2; exact (by (with_reducible repeat (first | apply Kd.R_alloc | apply Kd.R_drewN | apply Kd.R_drew)); exact (Kd.R_mono (Kd.R_far (p := ⟨gb122, 1, none⟩) (Kd.R_far (p := ⟨gb122, 0, none⟩) (Kd.R_types HO121.out BK122.out (by decide)) (fun _ hk => hk.2) (.string t118)) (fun _ hk => hk.2) (.slice Ao32 t119.length co32)) (fun _ h_ => h_.1)))); (case side4 => exact (Kd.R_reads' HO121.out).2.1); rintro e w34 ⟨v124, rfl, ho0, hb⟩; refine ⟨_, rfl, ?_⟩; have n0_ := Aside0.mk (Kd.S_elder' (by (with_reducible repeat (first | apply Kd.S_alloc | apply Kd.S_drewN | apply Kd.S_drew)); exact (Kd.S_mono (Kd.S_far (p := ⟨gb122, 1, none⟩) (Kd.S_far (p := ⟨gb122, 0, none⟩) (Kd.S_mono HO106.out (fun k_ hk => (⟨hk, hk.2⟩ : _ ∧ k_ ≠ gb122))) (fun _ hk => hk.2) (.string t118)) (fun _ hk => hk.2) (.slice Ao32 t119.length co32)) (fun _ h_ => h_.1))) (Kd.R_base ho0) hb); have n1_ := Aside0.mk (Kd.R_elder' (by (with_reducible repeat (first | apply Kd.R_alloc | apply Kd.R_drewN | apply Kd.R_drew)); exact (Kd.R_mono (Kd.R_far (p := ⟨gb122, 1, none⟩) (Kd.R_far (p := ⟨gb122, 0, none⟩) (Kd.R_types HO110.out BK122.out (by decide)) (fun _ hk => hk.2) (.string t118)) (fun _ hk => hk.2) (.slice Ao32 t119.length co32)) (fun _ h_ => h_.1))) (Kd.R_base ho0) hb); have n2_ := Aside0.mk (Kd.R_elder' (by (with_reducible repeat (first | apply Kd.R_alloc | apply Kd.R_drewN | apply Kd.R_drew)); exact (Kd.R_mono (Kd.R_far (p := ⟨gb122, 1, none⟩) (Kd.R_far (p := ⟨gb122, 0, none⟩) (Kd.R_types HO113.out BK122.out (by decide)) (fun _ hk => hk.2) (.string t118)) (fun _ hk => hk.2) (.slice Ao32 t119.length co32)) (fun _ h_ => h_.1))) (Kd.R_base ho0) hb); have n3_ := Aside0.mk (Kd.S_elder' (by (with_reducible repeat (first | apply Kd.S_alloc | apply Kd.S_drewN | apply Kd.S_drew)); exact (Kd.S_mono (Kd.S_far (p := ⟨gb122, 1, none⟩) (Kd.S_far (p := ⟨gb122, 0, none⟩) (Kd.S_mono HO117.out (fun k_ hk => (⟨hk, hk.2⟩ : _ ∧ k_ ≠ gb122))) (fun _ hk => hk.2) (.string t118)) (fun _ hk => hk.2) (.slice Ao32 t119.length co32)) (fun _ h_ => h_.1))) (Kd.R_base ho0) hb); have n4_ := Aside0.mk (Kd.R_elder' (by (with_reducible repeat (first | apply Kd.R_alloc | apply Kd.R_drewN | apply Kd.R_drew)); exact (Kd.R_mono (Kd.R_far (p := ⟨gb122, 1, none⟩) (Kd.R_far (p := ⟨gb122, 0, none⟩) (Kd.R_types HO121.out BK122.out (by decide)) (fun _ hk => hk.2) (.string t118)) (fun _ hk => hk.2) (.slice Ao32 t119.length co32)) (fun _ h_ => h_.1))) (Kd.R_base ho0) hb); have n5_ := Aside0.mk (Kd.R_lower (Kd.R_new' (Kd.R_new' (Kd.R_new' ho0 (Kd.R_lt (by (with_reducible repeat (first | apply Kd.R_alloc | apply Kd.R_drewN | apply Kd.R_drew)); exact (Kd.R_mono (Kd.R_far (p := ⟨gb122, 1, none⟩) (Kd.R_far (p := ⟨gb122, 0, none⟩) (Kd.R_types HO110.out BK122.out (by decide)) (fun _ hk => hk.2) (.string t118)) (fun _ hk => hk.2) (.slice Ao32 t119.length co32)) (fun _ h_ => h_.1))))) (Kd.R_lt (by (with_reducible repeat (first | apply Kd.R_alloc | apply Kd.R_drewN | apply Kd.R_drew)); exact (Kd.R_mono (Kd.R_far (p := ⟨gb122, 1, none⟩) (Kd.R_far (p := ⟨gb122, 0, none⟩) (Kd.R_types HO113.out BK122.out (by decide)) (fun _ hk => hk.2) (.string t118)) (fun _ hk => hk.2) (.slice Ao32 t119.length co32)) (fun _ h_ => h_.1))))) (Kd.R_lt (by (with_reducible repeat (first | apply Kd.R_alloc | apply Kd.R_drewN | apply Kd.R_drew)); exact (Kd.R_mono (Kd.R_far (p := ⟨gb122, 1, none⟩) (Kd.R_far (p := ⟨gb122, 0, none⟩) (Kd.R_types HO121.out BK122.out (by decide)) (fun _ hk => hk.2) (.string t118)) (fun _ hk => hk.2) (.slice Ao32 t119.length co32)) (fun _ h_ => h_.1))))) (below_size (by repeat (first | (with_reducible first | exact HB.out | apply below_alloc | apply pw_below_drewN | apply below_drew1 | refine below_set ?_ GE101.out | refine below_set ?_ GE122.out) | exact HB.out)))); have n6_ := Aside0.mk (blk_below (g := gb101) (o := .cells #[.string a1_0, .slice A1_1 l1_1.length c1_1] 24 (0, 0)) (by (with_reducible repeat (first | refine blk_drewN ?_ _ | refine blk_drew ?_ | refine blk_alloc ?_ _)); refine blk_far ?_ NB101_122.out _; (with_reducible repeat (first | refine blk_drewN ?_ _ | refine blk_drew ?_ | refine blk_alloc ?_ _)); refine blk_far ?_ NB101_122.out _; (with_reducible repeat (first | refine blk_drewN ?_ _ | refine blk_drew ?_ | refine blk_alloc ?_ _)); exact BK101.out) hb); have n7_ := Aside0.mk (blk_below (g := gb122) (o := .cells #[.string t118, .slice Ao32 t119.length co32] 28 (0, 0)) (by (with_reducible repeat (first | refine blk_drewN ?_ _ | refine blk_drew ?_ | refine blk_alloc ?_ _)); refine blk_put (cs := #[.string t118, .slice none 0 0]) ?_ 1 _ rfl; (with_reducible repeat (first | refine blk_drewN ?_ _ | refine blk_drew ?_ | refine blk_alloc ?_ _)); refine blk_put (cs := #[.string (⟨#[]⟩ : ByteArray), .slice none 0 0]) ?_ 0 _ rfl; (with_reducible repeat (first | refine blk_drewN ?_ _ | refine blk_drew ?_ | refine blk_alloc ?_ _)); exact BK122.out) hb); have n8_ := Aside0.mk (below_step (by repeat (first | (with_reducible first | exact HB.out | apply below_alloc | apply pw_below_drewN | apply below_drew1 | refine below_set ?_ GE101.out | refine below_set ?_ GE122.out) | exact HB.out)) hb); clear HO106; clear HO110; clear HO113; clear HO117; clear HO121; clear BK101; clear BK122; clear HB; have HO106 := n0_; have HO110 := n1_; have HO113 := n2_; have HO117 := n3_; have HO121 := n4_; have HO125 := n5_; have BK101 := n6_; have BK122 := n7_; have HB := n8_; clear n0_ n1_ n2_ n3_ n4_ n5_ n6_ n7_ n8_; (try clear hb); (try clear hb2); (try clear hk); (try clear hi); (try clear ho0)))
      (try simp only [Act.put, List.setIfInBounds_toArray, List.set_cons_zero, List.set_cons_succ])
      go_cut [53] (fun v53 wc => ∃ (kq : Nat) (x53_18 : Bool), v53 = .bool x53_18 ∧ Aside0 (laws_FnExactRankedFeatures.j0 kq l0 t111 t114 t115 t123 t126 x53_18 a1_0 l1_1 t118 t119 = some r) ∧ Aside0 (kq ≤ k) ∧ Aside0 (Kd.R (Kd.int .i64) 2 wc w.heap.size (fun k_ => some k_ ≠ (v124 : Value).ownBlock ∧ some k_ ≠ ((.slice Ao32 t119.length co32) : Value).ownBlock) v112 t111) ∧ Aside0 (Kd.S k28 28 wc w.heap.size (fun k_ => some k_ ≠ (v112 : Value).ownBlock ∧ some k_ ≠ (v124 : Value).ownBlock ∧ some k_ ≠ ((.slice Ao32 t119.length co32) : Value).ownBlock ∧ k_ ≠ gb122) (.slice Ao33 t115.length co33) t115) ∧ Aside0 (Kd.R (Kd.int .i64) 2 wc w.heap.size (fun k_ => some k_ ≠ (v112 : Value).ownBlock ∧ some k_ ≠ ((.slice Ao32 t119.length co32) : Value).ownBlock) v124 t123) ∧ Aside0 (Kd.R (Kd.int .i64) 2 wc w.heap.size (fun k_ => some k_ ≠ (v112 : Value).ownBlock ∧ some k_ ≠ (v124 : Value).ownBlock) (.slice Ao32 t119.length co32) t119) ∧ Aside0 (wc.heap[gb101]? = some (.cells #[.string a1_0, (.slice A1_1 l1_1.length c1_1)] 24 (0, 0))) ∧ Aside0 (wc.heap[gb122]? = some (.cells #[.string t118, (.slice Ao32 t119.length co32)] 28 (0, 0))) ∧ Aside0 (Below w.heap.size w wc))
      case first =>
        have H := HC19.out
        clear HC19
        replace H := Option.bind_eq_some_iff.mp H
        obtain ⟨t127, A350, H⟩ := H
        replace H : (if t127 = true then (laws_FnExactRankedFeatures.j0 k l0 t111 t114 t115 t123 t126 (t126 != t114) a1_0 l1_1 t118 t119) else (laws_FnExactRankedFeatures.j0 k l0 t111 t114 t115 t123 t126 true a1_0 l1_1 t118 t119)) = some r := H
        have A35 := Aside0.mk A350
        clear A350
        by_cases c36 : t127 = true
        · subst c36
          have H1 : (laws_FnExactRankedFeatures.j0 k l0 t111 t114 t115 t123 t126 (t126 != t114) a1_0 l1_1 t118 t119) = some r := by rw [if_pos rfl] at H; exact H
          clear H
          have H := H1
          clear H1
          have H' := Aside0.mk H
          clear H
          obtain ⟨Ao37, co37, eo37⟩ := Kd.R_slice HO125.out
          subst eo37
          obtain ⟨Ao38, co38, eo38⟩ := Kd.R_slice HO113.out
          subst eo38
          go_wp2_with (first | ((with_reducible refine gate_callee (f := 31) rfl ?_); refine goesL_ (some 47) rfl rfl Try.func31 (by kernel_rfl) rfl #[.slice Ao37 t123.length co37, .slice Ao38 t111.length co38] rfl (by (try simp only [List.map_toArray, List.map_cons, List.map_nil]); first | done | rfl | (simp only [List.length_drop, List.length_take]; rfl)) ?_; (with_reducible refine (laws_eqInt64S.calls k _ _ t123 _ _ t111 true _ ?side1 ?side2 ?side3 ?side4 A35.out).mono ?_); (case side1 => repeat (first | exact (Kd.R_reads' HO125.out).2.2 | (with_reducible refine Kd.C_alloc ?_ _) | (with_reducible refine Kd.C_drewN ?_ _) | (with_reducible refine Kd.C_drew ?_))); (case side2 => exact (Kd.R_reads' HO125.out).2.1); (case side3 => repeat (first | exact (Kd.R_reads' HO113.out).2.2 | (with_reducible refine Kd.C_alloc ?_ _) | (with_reducible refine Kd.C_drewN ?_ _) | (with_reducible refine Kd.C_drew ?_))); (case side4 => exact (Kd.R_reads' HO113.out).2.1); rintro e w' ⟨rfl, ⟨nd, rfl⟩⟩; refine ⟨_, rfl, ?_⟩; (try (rw [drewN_self w34]; generalize hq_ : World.drewN w34 _ = w34; have n0_ : Aside0 (Kd.S k28 28 w34 w.heap.size (fun k_ => ((((((True ∧ some k_ ≠ (.slice Ao24 t108.length co24 : Value).ownBlock) ∧ some k_ ≠ (.slice Ao38 t111.length co38 : Value).ownBlock) ∧ some k_ ≠ (.slice Ao33 t115.length co33 : Value).ownBlock) ∧ some k_ ≠ (.slice Ao32 t119.length co32 : Value).ownBlock) ∧ k_ ≠ gb122) ∧ some k_ ≠ (.slice Ao37 t123.length co37 : Value).ownBlock)) (.slice Ao23 t104.length co23) t104) := ⟨by rw [← hq_]; exact (by (with_reducible repeat (first | apply Kd.S_alloc | apply Kd.S_drewN | apply Kd.S_drew)); exact HO106.out)⟩; have n1_ : Aside0 (Kd.R (Kd.int .i64) 2 w34 w.heap.size (fun k_ => (((True ∧ some k_ ≠ (.slice Ao38 t111.length co38 : Value).ownBlock) ∧ some k_ ≠ (.slice Ao32 t119.length co32 : Value).ownBlock) ∧ some k_ ≠ (.slice Ao37 t123.length co37 : Value).ownBlock)) (.slice Ao24 t108.length co24) t108) := ⟨by rw [← hq_]; exact (by (with_reducible repeat (first | apply Kd.R_alloc | apply Kd.R_drewN | apply Kd.R_drew)); exact HO110.out)⟩; have n2_ : Aside0 (Kd.R (Kd.int .i64) 2 w34 w.heap.size (fun k_ => (((True ∧ some k_ ≠ (.slice Ao24 t108.length co24 : Value).ownBlock) ∧ some k_ ≠ (.slice Ao32 t119.length co32 : Value).ownBlock) ∧ some k_ ≠ (.slice Ao37 t123.length co37 : Value).ownBlock)) (.slice Ao38 t111.length co38) t111) := ⟨by rw [← hq_]; exact (by (with_reducible repeat (first | apply Kd.R_alloc | apply Kd.R_drewN | apply Kd.R_drew)); exact HO113.out)⟩; have n3_ : Aside0 (Kd.S k28 28 w34 w.heap.size (fun k_ => ((((((True ∧ some k_ ≠ (.slice Ao23 t104.length co23 : Value).ownBlock) ∧ some k_ ≠ (.slice Ao24 t108.length co24 : Value).ownBlock) ∧ some k_ ≠ (.slice Ao38 t111.length co38 : Value).ownBlock) ∧ some k_ ≠ (.slice Ao32 t119.length co32 : Value).ownBlock) ∧ k_ ≠ gb122) ∧ some k_ ≠ (.slice Ao37 t123.length co37 : Value).ownBlock)) (.slice Ao33 t115.length co33) t115) := ⟨by rw [← hq_]; exact (by (with_reducible repeat (first | apply Kd.S_alloc | apply Kd.S_drewN | apply Kd.S_drew)); exact HO117.out)⟩; have n4_ : Aside0 (Kd.R (Kd.int .i64) 2 w34 w.heap.size (fun k_ => (((True ∧ some k_ ≠ (.slice Ao24 t108.length co24 : Value).ownBlock) ∧ some k_ ≠ (.slice Ao38 t111.length co38 : Value).ownBlock) ∧ some k_ ≠ (.slice Ao37 t123.length co37 : Value).ownBlock)) (.slice Ao32 t119.length co32) t119) := ⟨by rw [← hq_]; exact (by (with_reducible repeat (first | apply Kd.R_alloc | apply Kd.R_drewN | apply Kd.R_drew)); exact HO121.out)⟩; have n5_ : Aside0 (Kd.R (Kd.int .i64) 2 w34 w.heap.size (fun k_ => (((True ∧ some k_ ≠ (.slice Ao24 t108.length co24 : Value).ownBlock) ∧ some k_ ≠ (.slice Ao38 t111.length co38 : Value).ownBlock) ∧ some k_ ≠ (.slice Ao32 t119.length co32 : Value).ownBlock)) (.slice Ao37 t123.length co37) t123) := ⟨by rw [← hq_]; exact (by (with_reducible repeat (first | apply Kd.R_alloc | apply Kd.R_drewN | apply Kd.R_drew)); exact HO125.out)⟩; have n6_ : Aside0 (w34.heap[gb101]? = some (.cells #[.string a1_0, .slice A1_1 l1_1.length c1_1] 24 (0, 0))) := ⟨by rw [← hq_]; exact (by (with_reducible repeat (first | refine blk_drewN ?_ _ | refine blk_drew ?_ | refine blk_alloc ?_ _)); exact BK101.out)⟩; have n7_ : Aside0 (w34.heap[gb122]? = some (.cells #[.string t118, .slice Ao32 t119.length co32] 28 (0, 0))) := ⟨by rw [← hq_]; exact (by (with_reducible repeat (first | refine blk_drewN ?_ _ | refine blk_drew ?_ | refine blk_alloc ?_ _)); exact BK122.out)⟩; have n8_ : Aside0 (Below w.heap.size w w34) := ⟨by rw [← hq_]; exact (by repeat (first | (with_reducible first | exact HB.out | apply below_alloc | apply pw_below_drewN | apply below_drew1 | refine below_set ?_ GE101.out | refine below_set ?_ GE122.out) | exact HB.out))⟩; clear HO106 HO110 HO113 HO117 HO121 HO125 BK101 BK122 HB hq_; have HO106 := n0_; have HO110 := n1_; have HO113 := n2_; have HO117 := n3_; have HO121 := n4_; have HO125 := n5_; have BK101 := n6_; have BK122 := n7_; have HB := n8_; clear n0_ n1_ n2_ n3_ n4_ n5_ n6_ n7_ n8_))))
          go_meet
          case rel => exact ⟨_, ((t126 != t114)), (by first | rfl | (simp; done) | (simp [*]; done)), H', ⟨by first | omega | exact Nat.le_refl _⟩, ⟨by (with_reducible repeat (first | apply Kd.R_alloc | apply Kd.R_drewN | apply Kd.R_drew)); exact Kd.R_mono HO113.out (fun _ hk => ⟨hk.2, hk.1.2⟩)⟩, ⟨by (with_reducible repeat (first | apply Kd.S_alloc | apply Kd.S_drewN | apply Kd.S_drew)); exact Kd.S_mono HO117.out (fun _ hk => ⟨hk.1.1.1.2, ⟨hk.2, ⟨hk.1.1.2, hk.1.2⟩⟩⟩)⟩, ⟨by (with_reducible repeat (first | apply Kd.R_alloc | apply Kd.R_drewN | apply Kd.R_drew)); exact Kd.R_mono HO125.out (fun _ hk => ⟨hk.1.2, hk.2⟩)⟩, ⟨by (with_reducible repeat (first | apply Kd.R_alloc | apply Kd.R_drewN | apply Kd.R_drew)); exact Kd.R_mono HO121.out (fun _ hk => ⟨hk.1.2, hk.2⟩)⟩, ⟨by (with_reducible repeat (first | refine blk_drewN ?_ _ | refine blk_drew ?_ | refine blk_alloc ?_ _)); exact BK101.out⟩, ⟨by (with_reducible repeat (first | refine blk_drewN ?_ _ | refine blk_drew ?_ | refine blk_alloc ?_ _)); exact BK122.out⟩, ⟨by repeat (first | (with_reducible first | exact HB.out | apply below_alloc | apply pw_below_drewN | apply below_drew1 | refine below_set ?_ GE101.out | refine below_set ?_ GE122.out) | exact HB.out)⟩⟩
        · replace c36 := Bool.eq_false_iff.mpr c36
          subst c36
          have H1 : (laws_FnExactRankedFeatures.j0 k l0 t111 t114 t115 t123 t126 true a1_0 l1_1 t118 t119) = some r := by rw [if_neg (show ¬ (false = true) by decide)] at H; exact H
          clear H
          have H := H1
          clear H1
          have H' := Aside0.mk H
          clear H
          obtain ⟨Ao39, co39, eo39⟩ := Kd.R_slice HO125.out
          subst eo39
          obtain ⟨Ao40, co40, eo40⟩ := Kd.R_slice HO113.out
          subst eo40
          go_wp2_with (first | ((with_reducible refine gate_callee (f := 31) rfl ?_); refine goesL_ (some 47) rfl rfl Try.func31 (by kernel_rfl) rfl #[.slice Ao39 t123.length co39, .slice Ao40 t111.length co40] rfl (by (try simp only [List.map_toArray, List.map_cons, List.map_nil]); first | done | rfl | (simp only [List.length_drop, List.length_take]; rfl)) ?_; (with_reducible refine (laws_eqInt64S.calls k _ _ t123 _ _ t111 false _ ?side1 ?side2 ?side3 ?side4 A35.out).mono ?_); (case side1 => repeat (first | exact (Kd.R_reads' HO125.out).2.2 | (with_reducible refine Kd.C_alloc ?_ _) | (with_reducible refine Kd.C_drewN ?_ _) | (with_reducible refine Kd.C_drew ?_))); (case side2 => exact (Kd.R_reads' HO125.out).2.1); (case side3 => repeat (first | exact (Kd.R_reads' HO113.out).2.2 | (with_reducible refine Kd.C_alloc ?_ _) | (with_reducible refine Kd.C_drewN ?_ _) | (with_reducible refine Kd.C_drew ?_))); (case side4 => exact (Kd.R_reads' HO113.out).2.1); rintro e w' ⟨rfl, ⟨nd, rfl⟩⟩; refine ⟨_, rfl, ?_⟩; (try (rw [drewN_self w34]; generalize hq_ : World.drewN w34 _ = w34; have n0_ : Aside0 (Kd.S k28 28 w34 w.heap.size (fun k_ => ((((((True ∧ some k_ ≠ (.slice Ao24 t108.length co24 : Value).ownBlock) ∧ some k_ ≠ (.slice Ao40 t111.length co40 : Value).ownBlock) ∧ some k_ ≠ (.slice Ao33 t115.length co33 : Value).ownBlock) ∧ some k_ ≠ (.slice Ao32 t119.length co32 : Value).ownBlock) ∧ k_ ≠ gb122) ∧ some k_ ≠ (.slice Ao39 t123.length co39 : Value).ownBlock)) (.slice Ao23 t104.length co23) t104) := ⟨by rw [← hq_]; exact (by (with_reducible repeat (first | apply Kd.S_alloc | apply Kd.S_drewN | apply Kd.S_drew)); exact HO106.out)⟩; have n1_ : Aside0 (Kd.R (Kd.int .i64) 2 w34 w.heap.size (fun k_ => (((True ∧ some k_ ≠ (.slice Ao40 t111.length co40 : Value).ownBlock) ∧ some k_ ≠ (.slice Ao32 t119.length co32 : Value).ownBlock) ∧ some k_ ≠ (.slice Ao39 t123.length co39 : Value).ownBlock)) (.slice Ao24 t108.length co24) t108) := ⟨by rw [← hq_]; exact (by (with_reducible repeat (first | apply Kd.R_alloc | apply Kd.R_drewN | apply Kd.R_drew)); exact HO110.out)⟩; have n2_ : Aside0 (Kd.R (Kd.int .i64) 2 w34 w.heap.size (fun k_ => (((True ∧ some k_ ≠ (.slice Ao24 t108.length co24 : Value).ownBlock) ∧ some k_ ≠ (.slice Ao32 t119.length co32 : Value).ownBlock) ∧ some k_ ≠ (.slice Ao39 t123.length co39 : Value).ownBlock)) (.slice Ao40 t111.length co40) t111) := ⟨by rw [← hq_]; exact (by (with_reducible repeat (first | apply Kd.R_alloc | apply Kd.R_drewN | apply Kd.R_drew)); exact HO113.out)⟩; have n3_ : Aside0 (Kd.S k28 28 w34 w.heap.size (fun k_ => ((((((True ∧ some k_ ≠ (.slice Ao23 t104.length co23 : Value).ownBlock) ∧ some k_ ≠ (.slice Ao24 t108.length co24 : Value).ownBlock) ∧ some k_ ≠ (.slice Ao40 t111.length co40 : Value).ownBlock) ∧ some k_ ≠ (.slice Ao32 t119.length co32 : Value).ownBlock) ∧ k_ ≠ gb122) ∧ some k_ ≠ (.slice Ao39 t123.length co39 : Value).ownBlock)) (.slice Ao33 t115.length co33) t115) := ⟨by rw [← hq_]; exact (by (with_reducible repeat (first | apply Kd.S_alloc | apply Kd.S_drewN | apply Kd.S_drew)); exact HO117.out)⟩; have n4_ : Aside0 (Kd.R (Kd.int .i64) 2 w34 w.heap.size (fun k_ => (((True ∧ some k_ ≠ (.slice Ao24 t108.length co24 : Value).ownBlock) ∧ some k_ ≠ (.slice Ao40 t111.length co40 : Value).ownBlock) ∧ some k_ ≠ (.slice Ao39 t123.length co39 : Value).ownBlock)) (.slice Ao32 t119.length co32) t119) := ⟨by rw [← hq_]; exact (by (with_reducible repeat (first | apply Kd.R_alloc | apply Kd.R_drewN | apply Kd.R_drew)); exact HO121.out)⟩; have n5_ : Aside0 (Kd.R (Kd.int .i64) 2 w34 w.heap.size (fun k_ => (((True ∧ some k_ ≠ (.slice Ao24 t108.length co24 : Value).ownBlock) ∧ some k_ ≠ (.slice Ao40 t111.length co40 : Value).ownBlock) ∧ some k_ ≠ (.slice Ao32 t119.length co32 : Value).ownBlock)) (.slice Ao39 t123.length co39) t123) := ⟨by rw [← hq_]; exact (by (with_reducible repeat (first | apply Kd.R_alloc | apply Kd.R_drewN | apply Kd.R_drew)); exact HO125.out)⟩; have n6_ : Aside0 (w34.heap[gb101]? = some (.cells #[.string a1_0, .slice A1_1 l1_1.length c1_1] 24 (0, 0))) := ⟨by rw [← hq_]; exact (by (with_reducible repeat (first | refine blk_drewN ?_ _ | refine blk_drew ?_ | refine blk_alloc ?_ _)); exact BK101.out)⟩; have n7_ : Aside0 (w34.heap[gb122]? = some (.cells #[.string t118, .slice Ao32 t119.length co32] 28 (0, 0))) := ⟨by rw [← hq_]; exact (by (with_reducible repeat (first | refine blk_drewN ?_ _ | refine blk_drew ?_ | refine blk_alloc ?_ _)); exact BK122.out)⟩; have n8_ : Aside0 (Below w.heap.size w w34) := ⟨by rw [← hq_]; exact (by repeat (first | (with_reducible first | exact HB.out | apply below_alloc | apply pw_below_drewN | apply below_drew1 | refine below_set ?_ GE101.out | refine below_set ?_ GE122.out) | exact HB.out))⟩; clear HO106 HO110 HO113 HO117 HO121 HO125 BK101 BK122 HB hq_; have HO106 := n0_; have HO110 := n1_; have HO113 := n2_; have HO117 := n3_; have HO121 := n4_; have HO125 := n5_; have BK101 := n6_; have BK122 := n7_; have HB := n8_; clear n0_ n1_ n2_ n3_ n4_ n5_ n6_ n7_ n8_))))
          go_meet
          case rel => exact ⟨_, (true), (by first | rfl | (simp; done) | (simp [*]; done)), H', ⟨by first | omega | exact Nat.le_refl _⟩, ⟨by (with_reducible repeat (first | apply Kd.R_alloc | apply Kd.R_drewN | apply Kd.R_drew)); exact Kd.R_mono HO113.out (fun _ hk => ⟨hk.2, hk.1.2⟩)⟩, ⟨by (with_reducible repeat (first | apply Kd.S_alloc | apply Kd.S_drewN | apply Kd.S_drew)); exact Kd.S_mono HO117.out (fun _ hk => ⟨hk.1.1.1.2, ⟨hk.2, ⟨hk.1.1.2, hk.1.2⟩⟩⟩)⟩, ⟨by (with_reducible repeat (first | apply Kd.R_alloc | apply Kd.R_drewN | apply Kd.R_drew)); exact Kd.R_mono HO125.out (fun _ hk => ⟨hk.1.2, hk.2⟩)⟩, ⟨by (with_reducible repeat (first | apply Kd.R_alloc | apply Kd.R_drewN | apply Kd.R_drew)); exact Kd.R_mono HO121.out (fun _ hk => ⟨hk.1.2, hk.2⟩)⟩, ⟨by (with_reducible repeat (first | refine blk_drewN ?_ _ | refine blk_drew ?_ | refine blk_alloc ?_ _)); exact BK101.out⟩, ⟨by (with_reducible repeat (first | refine blk_drewN ?_ _ | refine blk_drew ?_ | refine blk_alloc ?_ _)); exact BK122.out⟩, ⟨by repeat (first | (with_reducible first | exact HB.out | apply below_alloc | apply pw_below_drewN | apply below_drew1 | refine below_set ?_ GE101.out | refine below_set ?_ GE122.out) | exact HB.out)⟩⟩
      case rest =>
        clear HC19
        try clear c1
        try clear p2
        try clear c3
        try clear c4
        try clear c7
        try clear c7b0
        try clear c7b1
        try clear c7b2
        try clear c10
        try clear c12
        try clear c12b0
        try clear c12b1
        try clear c12b2
        try clear c14
        try clear c17
        try clear c19
        try clear c30
        try clear c31
        try clear c36
        try clear c40
        try clear hcz10_0
        try clear hcz10_1
        try clear hcz27_0
        try clear hcz27_1
        try clear hcz31_0
        try clear hcz31_1
        try clear hfz10_0
        try clear hfz10_1
        try clear hfz27_0
        try clear hfz27_1
        try clear hfz31_0
        try clear hfz31_1
        obtain ⟨kq, x53_18, rfl, HA, HJ18, HO_6, HO_8, HO_10, HO_123001, BK101, BK122, HB⟩ := hcut
        cases kq with
        | zero => exact absurd HA.out (by simp [laws_FnExactRankedFeatures.j0])
        | succ kj18 =>
          have H := HA.out
          clear HA
          simp only [laws_FnExactRankedFeatures.j0] at H
          by_cases c41 : x53_18 = true
          · subst c41
            have H1 : (some false) = some r := by rw [if_pos rfl] at H; exact H
            clear H
            have H := H1
            clear H1
            obtain rfl := Option.some.inj H
            go_wp2
            go_ret
            exact ⟨by first | rfl | (simp [errW_none, errW_some] <;> rfl) | (simp [*, errW_none, errW_some] <;> rfl), by repeat (first | (with_reducible first | exact HB.out | apply below_alloc | apply pw_below_drewN | apply below_drew1 | refine below_set ?_ GE101.out | refine below_set ?_ GE122.out) | exact HB.out)⟩
          · replace c41 := Bool.eq_false_iff.mpr c41
            subst c41
            have H1 : ((laws_toFeatureS.f kj18 l0).bind fun t128 => ((laws_eqFeatureS.f kj18 t115 t128).bind fun t131 => (if t131 = true then ((laws_toFeature.f kj18 a1_0 l1_1).bind fun bt132 => ((laws_eqFeature.f kj18 t118 t119 bt132.1 bt132.2).bind fun t136 => (if t136 = true then ((laws_markFeatureS.f kj18 t115 1).bind fun bt137 => ((laws_markFeature.f kj18 t118 t119 bt137.1).bind fun bt139 => (if bt139.1 < 0 then (laws_FnExactRankedFeatures.j1 kj18 l0 t111 t114 t123 true a1_0 l1_1) else ((laws_eqInt64S.f kj18 t123 t111).bind fun t141 => (if t141 = true then (laws_FnExactRankedFeatures.j1 kj18 l0 t111 t114 t123 (t126 != t114) a1_0 l1_1) else (laws_FnExactRankedFeatures.j1 kj18 l0 t111 t114 t123 true a1_0 l1_1)))))) else (some false)))) else (some false)))) = some r := by rw [if_neg (show ¬ (false = true) by decide)] at H; exact H
            clear H
            have H := H1
            clear H1
            replace H := Option.bind_eq_some_iff.mp H
            obtain ⟨t128, A420, H⟩ := H
            replace H : ((laws_eqFeatureS.f kj18 t115 t128).bind fun t131 => (if t131 = true then ((laws_toFeature.f kj18 a1_0 l1_1).bind fun bt132 => ((laws_eqFeature.f kj18 t118 t119 bt132.1 bt132.2).bind fun t136 => (if t136 = true then ((laws_markFeatureS.f kj18 t115 1).bind fun bt137 => ((laws_markFeature.f kj18 t118 t119 bt137.1).bind fun bt139 => (if bt139.1 < 0 then (laws_FnExactRankedFeatures.j1 kj18 l0 t111 t114 t123 true a1_0 l1_1) else ((laws_eqInt64S.f kj18 t123 t111).bind fun t141 => (if t141 = true then (laws_FnExactRankedFeatures.j1 kj18 l0 t111 t114 t123 (t126 != t114) a1_0 l1_1) else (laws_FnExactRankedFeatures.j1 kj18 l0 t111 t114 t123 true a1_0 l1_1)))))) else (some false)))) else (some false))) = some r := H
            have A42 := Aside0.mk A420
            clear A420
            replace H := Option.bind_eq_some_iff.mp H
            obtain ⟨t131, A430, H⟩ := H
            replace H : (if t131 = true then ((laws_toFeature.f kj18 a1_0 l1_1).bind fun bt132 => ((laws_eqFeature.f kj18 t118 t119 bt132.1 bt132.2).bind fun t136 => (if t136 = true then ((laws_markFeatureS.f kj18 t115 1).bind fun bt137 => ((laws_markFeature.f kj18 t118 t119 bt137.1).bind fun bt139 => (if bt139.1 < 0 then (laws_FnExactRankedFeatures.j1 kj18 l0 t111 t114 t123 true a1_0 l1_1) else ((laws_eqInt64S.f kj18 t123 t111).bind fun t141 => (if t141 = true then (laws_FnExactRankedFeatures.j1 kj18 l0 t111 t114 t123 (t126 != t114) a1_0 l1_1) else (laws_FnExactRankedFeatures.j1 kj18 l0 t111 t114 t123 true a1_0 l1_1)))))) else (some false)))) else (some false)) = some r := H
            have A43 := Aside0.mk A430
            clear A430
            have HC44 := Aside0.mk H
            clear H
            go_upto_if 58 with (first | ((with_reducible refine gate_callee (f := 19) rfl ?_); refine goesL_ (some 56) rfl rfl Try.func19 (by kernel_rfl) rfl #[.slice A0 l0.length c0] rfl (by (try simp only [List.map_toArray, List.map_cons, List.map_nil]); first | done | rfl | (simp only [List.length_drop, List.length_take]; rfl)) ?_; (with_reducible refine (laws_toFeatureS.calls kj18 _ _ l0 t128 _ ?side1 ?side2 A42.out).mono ?_); (case side1 => repeat (first | exact (Kd.C_below HR0.out (by repeat (first | (with_reducible first | exact HB.out | apply below_alloc | apply pw_below_drewN | apply below_drew1 | refine below_set ?_ GE101.out | refine below_set ?_ GE122.out) | exact HB.out))) | (with_reducible refine Kd.C_alloc ?_ _) | (with_reducible refine Kd.C_drewN ?_ _) | (with_reducible refine Kd.C_drew ?_))); (case side2 => exact HC0.out); rintro e w45 ⟨v129, rfl, ho0, hb⟩; refine ⟨_, rfl, ?_⟩; have n0_ := Aside0.mk (Kd.R_below (by (with_reducible repeat (first | apply Kd.R_alloc | apply Kd.R_drewN | apply Kd.R_drew)); exact HO_6.out) hb); have n1_ := Aside0.mk (Kd.S_elder' (by (with_reducible repeat (first | apply Kd.S_alloc | apply Kd.S_drewN | apply Kd.S_drew)); exact HO_8.out) (Kd.S_base ho0) hb); have n2_ := Aside0.mk (Kd.R_below (by (with_reducible repeat (first | apply Kd.R_alloc | apply Kd.R_drewN | apply Kd.R_drew)); exact HO_10.out) hb); have n3_ := Aside0.mk (Kd.R_below (by (with_reducible repeat (first | apply Kd.R_alloc | apply Kd.R_drewN | apply Kd.R_drew)); exact HO_123001.out) hb); have n4_ := Aside0.mk (Kd.S_lower (Kd.S_newB (Kd.S_new' (Kd.S_new' (Kd.S_new' (Kd.S_new' ho0 (Kd.R_lt (by (with_reducible repeat (first | apply Kd.R_alloc | apply Kd.R_drewN | apply Kd.R_drew)); exact HO_6.out))) (Kd.S_lt (by (with_reducible repeat (first | apply Kd.S_alloc | apply Kd.S_drewN | apply Kd.S_drew)); exact HO_8.out))) (Kd.R_lt (by (with_reducible repeat (first | apply Kd.R_alloc | apply Kd.R_drewN | apply Kd.R_drew)); exact HO_10.out))) (Kd.R_lt (by (with_reducible repeat (first | apply Kd.R_alloc | apply Kd.R_drewN | apply Kd.R_drew)); exact HO_123001.out))) (g := gb122) (o := .cells #[.string t118, .slice Ao32 t119.length co32] 28 (0, 0)) (by (with_reducible repeat (first | refine blk_drewN ?_ _ | refine blk_drew ?_ | refine blk_alloc ?_ _)); exact BK122.out)) (below_size (by repeat (first | (with_reducible first | exact HB.out | apply below_alloc | apply pw_below_drewN | apply below_drew1 | refine below_set ?_ GE101.out | refine below_set ?_ GE122.out) | exact HB.out)))); have n5_ := Aside0.mk (blk_below (g := gb101) (o := .cells #[.string a1_0, .slice A1_1 l1_1.length c1_1] 24 (0, 0)) (by (with_reducible repeat (first | refine blk_drewN ?_ _ | refine blk_drew ?_ | refine blk_alloc ?_ _)); exact BK101.out) hb); have n6_ := Aside0.mk (blk_below (g := gb122) (o := .cells #[.string t118, .slice Ao32 t119.length co32] 28 (0, 0)) (by (with_reducible repeat (first | refine blk_drewN ?_ _ | refine blk_drew ?_ | refine blk_alloc ?_ _)); exact BK122.out) hb); have n7_ := Aside0.mk (below_step (by repeat (first | (with_reducible first | exact HB.out | apply below_alloc | apply pw_below_drewN | apply below_drew1 | refine below_set ?_ GE101.out | refine below_set ?_ GE122.out) | exact HB.out)) hb); clear HO_6; clear HO_8; clear HO_10; clear HO_123001; clear BK101; clear BK122; clear HB; have HO_6 := n0_; have HO_8 := n1_; have HO_10 := n2_; have HO_123001 := n3_; have HO130 := n4_; have BK101 := n5_; have BK122 := n6_; have HB := n7_; clear n0_ n1_ n2_ n3_ n4_ n5_ n6_ n7_; (try clear hb); (try clear hb2); (try clear hk); (try clear hi); (try clear ho0); obtain ⟨Ao46, co46, eo46⟩ := Kd.S_slice HO130.out; subst eo46) | ((with_reducible refine gate_callee (f := 21) rfl ?_); refine goesL_ (some 57) rfl rfl Try.func21 (by kernel_rfl) rfl #[.slice Ao33 t115.length co33, .slice Ao46 t128.length co46] rfl (by (try simp only [List.map_toArray, List.map_cons, List.map_nil]); first | done | rfl | (simp only [List.length_drop, List.length_take]; rfl)) ?_; (with_reducible refine (laws_eqFeatureS.calls kj18 _ _ t115 _ _ t128 t131 _ ?side1 ?side2 ?side3 ?side4 A43.out).mono ?_); (case side1 => repeat (first | exact (Kd.S_reads' HO_8.out).2.2 | (with_reducible refine Kd.C_alloc ?_ _) | (with_reducible refine Kd.C_drewN ?_ _) | (with_reducible refine Kd.C_drew ?_))); (case side2 => exact (Kd.S_reads' HO_8.out).2.1); (case side3 => repeat (first | exact (Kd.S_reads' HO130.out).2.2 | (with_reducible refine Kd.C_alloc ?_ _) | (with_reducible refine Kd.C_drewN ?_ _) | (with_reducible refine Kd.C_drew ?_))); (case side4 => exact (Kd.S_reads' HO130.out).2.1); rintro e w47 ⟨rfl, hb⟩; refine ⟨_, rfl, ?_⟩; have n0_ := Aside0.mk (Kd.R_below (by (with_reducible repeat (first | apply Kd.R_alloc | apply Kd.R_drewN | apply Kd.R_drew)); exact HO_6.out) hb); have n1_ := Aside0.mk (Kd.S_below (by (with_reducible repeat (first | apply Kd.S_alloc | apply Kd.S_drewN | apply Kd.S_drew)); exact HO_8.out) hb); have n2_ := Aside0.mk (Kd.R_below (by (with_reducible repeat (first | apply Kd.R_alloc | apply Kd.R_drewN | apply Kd.R_drew)); exact HO_10.out) hb); have n3_ := Aside0.mk (Kd.R_below (by (with_reducible repeat (first | apply Kd.R_alloc | apply Kd.R_drewN | apply Kd.R_drew)); exact HO_123001.out) hb); have n4_ := Aside0.mk (Kd.S_below (by (with_reducible repeat (first | apply Kd.S_alloc | apply Kd.S_drewN | apply Kd.S_drew)); exact HO130.out) hb); have n5_ := Aside0.mk (blk_below (g := gb101) (o := .cells #[.string a1_0, .slice A1_1 l1_1.length c1_1] 24 (0, 0)) (by (with_reducible repeat (first | refine blk_drewN ?_ _ | refine blk_drew ?_ | refine blk_alloc ?_ _)); exact BK101.out) hb); have n6_ := Aside0.mk (blk_below (g := gb122) (o := .cells #[.string t118, .slice Ao32 t119.length co32] 28 (0, 0)) (by (with_reducible repeat (first | refine blk_drewN ?_ _ | refine blk_drew ?_ | refine blk_alloc ?_ _)); exact BK122.out) hb); have n7_ := Aside0.mk (below_step (by repeat (first | (with_reducible first | exact HB.out | apply below_alloc | apply pw_below_drewN | apply below_drew1 | refine below_set ?_ GE101.out | refine below_set ?_ GE122.out) | exact HB.out)) hb); clear HO_6; clear HO_8; clear HO_10; clear HO_123001; clear HO130; clear BK101; clear BK122; clear HB; have HO_6 := n0_; have HO_8 := n1_; have HO_10 := n2_; have HO_123001 := n3_; have HO130 := n4_; have BK101 := n5_; have BK122 := n6_; have HB := n7_; clear n0_ n1_ n2_ n3_ n4_ n5_ n6_ n7_; (try clear hb); (try clear hb2); (try clear hk); (try clear hi)))
            (try simp only [Act.put, List.setIfInBounds_toArray, List.set_cons_zero, List.set_cons_succ])
            have H := HC44.out
            clear HC44
            by_cases c48 : t131 = true
            · subst c48
              have H1 : ((laws_toFeature.f kj18 a1_0 l1_1).bind fun bt132 => ((laws_eqFeature.f kj18 t118 t119 bt132.1 bt132.2).bind fun t136 => (if t136 = true then ((laws_markFeatureS.f kj18 t115 1).bind fun bt137 => ((laws_markFeature.f kj18 t118 t119 bt137.1).bind fun bt139 => (if bt139.1 < 0 then (laws_FnExactRankedFeatures.j1 kj18 l0 t111 t114 t123 true a1_0 l1_1) else ((laws_eqInt64S.f kj18 t123 t111).bind fun t141 => (if t141 = true then (laws_FnExactRankedFeatures.j1 kj18 l0 t111 t114 t123 (t126 != t114) a1_0 l1_1) else (laws_FnExactRankedFeatures.j1 kj18 l0 t111 t114 t123 true a1_0 l1_1)))))) else (some false)))) = some r := by rw [if_pos rfl] at H; exact H
              clear H
              have H := H1
              clear H1
              replace H := Option.bind_eq_some_iff.mp H
              obtain ⟨⟨t132, t133⟩, A490, H⟩ := H
              replace H : ((laws_eqFeature.f kj18 t118 t119 t132 t133).bind fun t136 => (if t136 = true then ((laws_markFeatureS.f kj18 t115 1).bind fun bt137 => ((laws_markFeature.f kj18 t118 t119 bt137.1).bind fun bt139 => (if bt139.1 < 0 then (laws_FnExactRankedFeatures.j1 kj18 l0 t111 t114 t123 true a1_0 l1_1) else ((laws_eqInt64S.f kj18 t123 t111).bind fun t141 => (if t141 = true then (laws_FnExactRankedFeatures.j1 kj18 l0 t111 t114 t123 (t126 != t114) a1_0 l1_1) else (laws_FnExactRankedFeatures.j1 kj18 l0 t111 t114 t123 true a1_0 l1_1)))))) else (some false))) = some r := H
              have A49 := Aside0.mk A490
              clear A490
              replace H := Option.bind_eq_some_iff.mp H
              obtain ⟨t136, A500, H⟩ := H
              replace H : (if t136 = true then ((laws_markFeatureS.f kj18 t115 1).bind fun bt137 => ((laws_markFeature.f kj18 t118 t119 bt137.1).bind fun bt139 => (if bt139.1 < 0 then (laws_FnExactRankedFeatures.j1 kj18 l0 t111 t114 t123 true a1_0 l1_1) else ((laws_eqInt64S.f kj18 t123 t111).bind fun t141 => (if t141 = true then (laws_FnExactRankedFeatures.j1 kj18 l0 t111 t114 t123 (t126 != t114) a1_0 l1_1) else (laws_FnExactRankedFeatures.j1 kj18 l0 t111 t114 t123 true a1_0 l1_1)))))) else (some false)) = some r := H
              have A50 := Aside0.mk A500
              clear A500
              have HC51 := Aside0.mk H
              clear H
              try go_wp2
              (try (rw [drewN_self w47]; generalize hq_ : World.drewN w47 _ = w47; have n0_ : Aside0 (Kd.S k28 28 w47 w.heap.size (fun k_ => (((((True ∧ some k_ ≠ (v112 : Value).ownBlock) ∧ some k_ ≠ (.slice Ao33 t115.length co33 : Value).ownBlock) ∧ some k_ ≠ (v124 : Value).ownBlock) ∧ some k_ ≠ (.slice Ao32 t119.length co32 : Value).ownBlock) ∧ k_ ≠ gb122)) (.slice Ao46 t128.length co46) t128) := ⟨by rw [← hq_]; exact (by (with_reducible repeat (first | apply Kd.S_alloc | apply Kd.S_drewN | apply Kd.S_drew)); exact HO130.out)⟩; have n1_ : Aside0 (Kd.R (Kd.int .i64) 2 w47 w.heap.size (fun k_ => (some k_ ≠ (v112 : Value).ownBlock ∧ some k_ ≠ (.slice Ao32 t119.length co32 : Value).ownBlock)) v124 t123) := ⟨by rw [← hq_]; exact (by (with_reducible repeat (first | apply Kd.R_alloc | apply Kd.R_drewN | apply Kd.R_drew)); exact HO_10.out)⟩; have n2_ : Aside0 (Kd.R (Kd.int .i64) 2 w47 w.heap.size (fun k_ => (some k_ ≠ (v112 : Value).ownBlock ∧ some k_ ≠ (v124 : Value).ownBlock)) (.slice Ao32 t119.length co32) t119) := ⟨by rw [← hq_]; exact (by (with_reducible repeat (first | apply Kd.R_alloc | apply Kd.R_drewN | apply Kd.R_drew)); exact HO_123001.out)⟩; have n3_ : Aside0 (Kd.R (Kd.int .i64) 2 w47 w.heap.size (fun k_ => (some k_ ≠ (v124 : Value).ownBlock ∧ some k_ ≠ (.slice Ao32 t119.length co32 : Value).ownBlock)) v112 t111) := ⟨by rw [← hq_]; exact (by (with_reducible repeat (first | apply Kd.R_alloc | apply Kd.R_drewN | apply Kd.R_drew)); exact HO_6.out)⟩; have n4_ : Aside0 (Kd.S k28 28 w47 w.heap.size (fun k_ => ((some k_ ≠ (v112 : Value).ownBlock ∧ (some k_ ≠ (v124 : Value).ownBlock ∧ (some k_ ≠ (.slice Ao32 t119.length co32 : Value).ownBlock ∧ k_ ≠ gb122))) ∧ some k_ ≠ (.slice Ao46 t128.length co46 : Value).ownBlock)) (.slice Ao33 t115.length co33) t115) := ⟨by rw [← hq_]; exact (by (with_reducible repeat (first | apply Kd.S_alloc | apply Kd.S_drewN | apply Kd.S_drew)); exact HO_8.out)⟩; have n5_ : Aside0 (w47.heap[gb101]? = some (.cells #[.string a1_0, .slice A1_1 l1_1.length c1_1] 24 (0, 0))) := ⟨by rw [← hq_]; exact (by (with_reducible repeat (first | refine blk_drewN ?_ _ | refine blk_drew ?_ | refine blk_alloc ?_ _)); exact BK101.out)⟩; have n6_ : Aside0 (w47.heap[gb122]? = some (.cells #[.string t118, .slice Ao32 t119.length co32] 28 (0, 0))) := ⟨by rw [← hq_]; exact (by (with_reducible repeat (first | refine blk_drewN ?_ _ | refine blk_drew ?_ | refine blk_alloc ?_ _)); exact BK122.out)⟩; have n7_ : Aside0 (Below w.heap.size w w47) := ⟨by rw [← hq_]; exact (by repeat (first | (with_reducible first | exact HB.out | apply below_alloc | apply pw_below_drewN | apply below_drew1 | refine below_set ?_ GE101.out | refine below_set ?_ GE122.out) | exact HB.out))⟩; clear HO130 HO_10 HO_123001 HO_6 HO_8 BK101 BK122 HB hq_; have HO130 := n0_; have HO_10 := n1_; have HO_123001 := n2_; have HO_6 := n3_; have HO_8 := n4_; have BK101 := n5_; have BK122 := n6_; have HB := n7_; clear n0_ n1_ n2_ n3_ n4_ n5_ n6_ n7_))
              have n0_ := Aside0.mk (Kd.R_drew HO_6.out)
              have n1_ := Aside0.mk (Kd.S_drew HO_8.out)
              have n2_ := Aside0.mk (Kd.R_drew HO_10.out)
              have n3_ := Aside0.mk (Kd.R_drew HO_123001.out)
              have n4_ := Aside0.mk (Kd.S_drew HO130.out)
              have n5_ := Aside0.mk (blk_drew BK101.out)
              have n6_ := Aside0.mk (blk_drew BK122.out)
              have n7_ := Aside0.mk (below_drew1 HB.out)
              clear HO_6
              clear HO_8
              clear HO_10
              clear HO_123001
              clear HO130
              clear BK101
              clear BK122
              clear HB
              have HO_6 := n0_
              have HO_8 := n1_
              have HO_10 := n2_
              have HO_123001 := n3_
              have HO130 := n4_
              have BK101 := n5_
              have BK122 := n6_
              have HB := n7_
              clear n0_ n1_ n2_ n3_ n4_ n5_ n6_ n7_
              refine start_ (n := 5) (S := fun w' => w'.cell? ⟨gb122, 0, none⟩ = some (.string t118) ∧ w'.cell? ⟨gb122, 1, none⟩ = some (.slice Ao32 t119.length co32) ∧ w'.cell? ⟨gb101, 0, none⟩ = some (.string a1_0) ∧ w'.cell? ⟨gb101, 1, none⟩ = some (.slice A1_1 l1_1.length c1_1)) (ds := []) #[false, false, false, false, false] (by kernel_rfl) rfl rfl ⟨(blk_cell BK122.out 0).trans rfl, (blk_cell BK122.out 1).trans rfl, (blk_cell BK101.out 0).trans rfl, (blk_cell BK101.out 1).trans rfl⟩ (fun hHeld => ?_)
              generalize w47.drew = w52 at HO_6 HO_8 HO_10 HO_123001 HO130 BK101 BK122 HB hHeld ⊢
              refine take_ (i := 0) (N := some 59) (v := ?_) (a' := ?_) #[true, false, false, false, false] rfl rfl (by kernel_rfl) (fun _ _ _ h => h) (Or.inl ⟨by rfl, ?_⟩) hHeld ?_ ?_
              rotate_left
              · rintro w' ⟨s0, s1, s2, s3⟩
                go_simp
                with_reducible rfl
              rotate_left
              · simp only [Act.put, List.setIfInBounds_toArray, List.set_cons_zero, List.set_cons_succ, i64_w, i32_w]
                rfl
              refine take_ (i := 1) (N := some 60) (v := ?_) (a' := ?_) #[true, true, false, false, false] rfl rfl (by kernel_rfl) (fun _ _ _ h => h) (Or.inl ⟨by rfl, ?_⟩) hHeld ?_ ?_
              rotate_left
              · rintro w' ⟨s0, s1, s2, s3⟩
                go_simp
                with_reducible rfl
              rotate_left
              · simp only [Act.put, List.setIfInBounds_toArray, List.set_cons_zero, List.set_cons_succ, i64_w, i32_w]
                rfl
              refine one_ (i := 2) (N := some 61) #[true, true, true, false, false] rfl rfl (by kernel_rfl) (by decide) (fun K hK => ?_)
              (first | refine goes_ Try.func14 (by kernel_rfl) rfl #[.agg #[.string a1_0, .slice A1_1 l1_1.length c1_1]] (by rfl) rfl rfl (by (try simp only [List.map_toArray, List.map_cons, List.map_nil]); first | done | rfl | (simp only [List.length_drop, List.length_take]; rfl)) ?_ | refine RPW.goesV_ Try.func14 (by kernel_rfl) rfl #[.agg #[.string a1_0, .slice A1_1 l1_1.length c1_1]] (by rfl) rfl rfl rfl (by (try simp only [List.map_toArray, List.map_cons, List.map_nil]); first | done | rfl | (simp only [List.length_drop, List.length_take]; rfl)) ?_ | refine RPW.goesC_ Try.func14 (by kernel_rfl) rfl #[.agg #[.string a1_0, .slice A1_1 l1_1.length c1_1]] (by rfl) rfl rfl rfl (by (try simp only [List.map_toArray, List.map_cons, List.map_nil]); first | done | rfl | (simp only [List.length_drop, List.length_take]; rfl)) ?_)
              with_reducible refine (laws_toFeature.calls kj18 a1_0 _ _ l1_1 t132 t133 _ ?side1 ?side2 A49.out).mono ?_
              (case side1 => repeat (first | exact (Kd.C_below HR1_1.out HB.out) | (with_reducible refine Kd.C_alloc ?_ _) | (with_reducible refine Kd.C_drewN ?_ _) | (with_reducible refine Kd.C_drew ?_)))
              (case side2 => exact HC1_1.out)
              rintro e w53 ⟨v134, rfl, ho0, hb⟩
              refine ⟨_, rfl, ?_⟩
              have n0_ := Aside0.mk (Kd.R_elder' (by (with_reducible repeat (first | apply Kd.R_alloc | apply Kd.R_drewN | apply Kd.R_drew)); exact HO_6.out) (Kd.R_base ho0) hb)
              have n1_ := Aside0.mk (Kd.S_elder' (by (with_reducible repeat (first | apply Kd.S_alloc | apply Kd.S_drewN | apply Kd.S_drew)); exact HO_8.out) (Kd.R_base ho0) hb)
              have n2_ := Aside0.mk (Kd.R_elder' (by (with_reducible repeat (first | apply Kd.R_alloc | apply Kd.R_drewN | apply Kd.R_drew)); exact HO_10.out) (Kd.R_base ho0) hb)
              have n3_ := Aside0.mk (Kd.R_elder' (by (with_reducible repeat (first | apply Kd.R_alloc | apply Kd.R_drewN | apply Kd.R_drew)); exact HO_123001.out) (Kd.R_base ho0) hb)
              have n4_ := Aside0.mk (Kd.S_elder' (by (with_reducible repeat (first | apply Kd.S_alloc | apply Kd.S_drewN | apply Kd.S_drew)); exact HO130.out) (Kd.R_base ho0) hb)
              have n5_ := Aside0.mk (Kd.R_lower (Kd.R_new' (Kd.R_new' (Kd.R_new' ho0 (Kd.R_lt (by (with_reducible repeat (first | apply Kd.R_alloc | apply Kd.R_drewN | apply Kd.R_drew)); exact HO_6.out))) (Kd.R_lt (by (with_reducible repeat (first | apply Kd.R_alloc | apply Kd.R_drewN | apply Kd.R_drew)); exact HO_10.out))) (Kd.R_lt (by (with_reducible repeat (first | apply Kd.R_alloc | apply Kd.R_drewN | apply Kd.R_drew)); exact HO_123001.out))) (below_size (by repeat (first | (with_reducible first | exact HB.out | apply below_alloc | apply pw_below_drewN | apply below_drew1 | refine below_set ?_ GE101.out | refine below_set ?_ GE122.out) | exact HB.out))))
              have n6_ := Aside0.mk (blk_below (g := gb101) (o := .cells #[.string a1_0, .slice A1_1 l1_1.length c1_1] 24 (0, 0)) (by (with_reducible repeat (first | refine blk_drewN ?_ _ | refine blk_drew ?_ | refine blk_alloc ?_ _)); exact BK101.out) hb)
              have n7_ := Aside0.mk (blk_below (g := gb122) (o := .cells #[.string t118, .slice Ao32 t119.length co32] 28 (0, 0)) (by (with_reducible repeat (first | refine blk_drewN ?_ _ | refine blk_drew ?_ | refine blk_alloc ?_ _)); exact BK122.out) hb)
              have n8_ := Aside0.mk (below_step (by repeat (first | (with_reducible first | exact HB.out | apply below_alloc | apply pw_below_drewN | apply below_drew1 | refine below_set ?_ GE101.out | refine below_set ?_ GE122.out) | exact HB.out)) hb)
              clear HO_6
              clear HO_8
              clear HO_10
              clear HO_123001
              clear HO130
              clear BK101
              clear BK122
              clear HB
              have HO_6 := n0_
              have HO_8 := n1_
              have HO_10 := n2_
              have HO_123001 := n3_
              have HO130 := n4_
              have HO135 := n5_
              have BK101 := n6_
              have BK122 := n7_
              have HB := n8_
              clear n0_ n1_ n2_ n3_ n4_ n5_ n6_ n7_ n8_
              (try clear hb)
              (try clear hb2)
              (try clear hk)
              (try clear hi)
              (try clear ho0)
              obtain ⟨Ao54, co54, eo54⟩ := Kd.R_slice HO135.out
              (first | subst eo54 | (injection eo54 with f1_ f2_ f3_; have f4_ := f1_.symm; have f5_ := f3_.symm; clear f1_ f2_ f3_; subst f4_; subst f5_))
              refine hK.out _ _ ⟨(blk_cell BK122.out 0).trans rfl, (blk_cell BK122.out 1).trans rfl, (blk_cell BK101.out 0).trans rfl, (blk_cell BK101.out 1).trans rfl⟩ (fun hHeld => ?_)
              clear hK K
              refine norm_ (a' := ?_) ?_ ?_
              rotate_left
              · show Act.put _ (some 61) _ = _
                simp only [Act.put, List.setIfInBounds_toArray, List.set_cons_zero, List.set_cons_succ, i64_w, i32_w]
                rfl
              refine one_ (i := 3) (N := some 62) #[true, true, true, true, false] rfl rfl (by kernel_rfl) (by decide) (fun K hK => ?_)
              (first | refine goes_ Try.func16 (by kernel_rfl) rfl #[.agg #[.string t118, .slice Ao32 t119.length co32], .agg #[.string t132, .slice Ao54 t133.length co54]] (by rfl) rfl rfl (by (try simp only [List.map_toArray, List.map_cons, List.map_nil]); first | done | rfl | (simp only [List.length_drop, List.length_take]; rfl)) ?_ | refine RPW.goesV_ Try.func16 (by kernel_rfl) rfl #[.agg #[.string t118, .slice Ao32 t119.length co32], .agg #[.string t132, .slice Ao54 t133.length co54]] (by rfl) rfl rfl rfl (by (try simp only [List.map_toArray, List.map_cons, List.map_nil]); first | done | rfl | (simp only [List.length_drop, List.length_take]; rfl)) ?_ | refine RPW.goesC_ Try.func16 (by kernel_rfl) rfl #[.agg #[.string t118, .slice Ao32 t119.length co32], .agg #[.string t132, .slice Ao54 t133.length co54]] (by rfl) rfl rfl rfl (by (try simp only [List.map_toArray, List.map_cons, List.map_nil]); first | done | rfl | (simp only [List.length_drop, List.length_take]; rfl)) ?_)
              with_reducible refine (laws_eqFeature.calls kj18 t118 _ _ t119 t132 _ _ t133 t136 _ ?side1 ?side2 ?side3 ?side4 A50.out).mono ?_
              (case side1 => repeat (first | exact (Kd.R_reads' HO_123001.out).2.2 | (with_reducible refine Kd.C_alloc ?_ _) | (with_reducible refine Kd.C_drewN ?_ _) | (with_reducible refine Kd.C_drew ?_)))
              (case side2 => exact (Kd.R_reads' HO_123001.out).2.1)
              (case side3 => repeat (first | exact (Kd.R_reads' HO135.out).2.2 | (with_reducible refine Kd.C_alloc ?_ _) | (with_reducible refine Kd.C_drewN ?_ _) | (with_reducible refine Kd.C_drew ?_)))
              (case side4 => exact (Kd.R_reads' HO135.out).2.1)
              rintro e w55 ⟨rfl, hb⟩
              refine ⟨_, rfl, ?_⟩
              have n0_ := Aside0.mk (Kd.R_below (by (with_reducible repeat (first | apply Kd.R_alloc | apply Kd.R_drewN | apply Kd.R_drew)); exact HO_6.out) hb)
              have n1_ := Aside0.mk (Kd.S_below (by (with_reducible repeat (first | apply Kd.S_alloc | apply Kd.S_drewN | apply Kd.S_drew)); exact HO_8.out) hb)
              have n2_ := Aside0.mk (Kd.R_below (by (with_reducible repeat (first | apply Kd.R_alloc | apply Kd.R_drewN | apply Kd.R_drew)); exact HO_10.out) hb)
              have n3_ := Aside0.mk (Kd.R_below (by (with_reducible repeat (first | apply Kd.R_alloc | apply Kd.R_drewN | apply Kd.R_drew)); exact HO_123001.out) hb)
              have n4_ := Aside0.mk (Kd.S_below (by (with_reducible repeat (first | apply Kd.S_alloc | apply Kd.S_drewN | apply Kd.S_drew)); exact HO130.out) hb)
              have n5_ := Aside0.mk (Kd.R_below (by (with_reducible repeat (first | apply Kd.R_alloc | apply Kd.R_drewN | apply Kd.R_drew)); exact HO135.out) hb)
              have n6_ := Aside0.mk (blk_below (g := gb101) (o := .cells #[.string a1_0, .slice A1_1 l1_1.length c1_1] 24 (0, 0)) (by (with_reducible repeat (first | refine blk_drewN ?_ _ | refine blk_drew ?_ | refine blk_alloc ?_ _)); exact BK101.out) hb)
              have n7_ := Aside0.mk (blk_below (g := gb122) (o := .cells #[.string t118, .slice Ao32 t119.length co32] 28 (0, 0)) (by (with_reducible repeat (first | refine blk_drewN ?_ _ | refine blk_drew ?_ | refine blk_alloc ?_ _)); exact BK122.out) hb)
              have n8_ := Aside0.mk (below_step (by repeat (first | (with_reducible first | exact HB.out | apply below_alloc | apply pw_below_drewN | apply below_drew1 | refine below_set ?_ GE101.out | refine below_set ?_ GE122.out) | exact HB.out)) hb)
              clear HO_6
              clear HO_8
              clear HO_10
              clear HO_123001
              clear HO130
              clear HO135
              clear BK101
              clear BK122
              clear HB
              have HO_6 := n0_
              have HO_8 := n1_
              have HO_10 := n2_
              have HO_123001 := n3_
              have HO130 := n4_
              have HO135 := n5_
              have BK101 := n6_
              have BK122 := n7_
              have HB := n8_
              clear n0_ n1_ n2_ n3_ n4_ n5_ n6_ n7_ n8_
              (try clear hb)
              (try clear hb2)
              (try clear hk)
              (try clear hi)
              refine hK.out _ _ ⟨(blk_cell BK122.out 0).trans rfl, (blk_cell BK122.out 1).trans rfl, (blk_cell BK101.out 0).trans rfl, (blk_cell BK101.out 1).trans rfl⟩ (fun hHeld => ?_)
              clear hK K
              refine norm_ (a' := ?_) ?_ ?_
              rotate_left
              · show Act.put _ (some 62) _ = _
                simp only [Act.put, List.setIfInBounds_toArray, List.set_cons_zero, List.set_cons_succ, i64_w, i32_w]
                rfl
              refine pure_ (i := 4) (N := some 63) (v := ?_) (a' := ?_) #[true, true, true, true, true] rfl rfl (by kernel_rfl) (fun _ _ _ h => h) (Or.inl ⟨by rfl, ?_⟩) ?_ ?_
              rotate_left
              · intro w'
                go_simp
                with_reducible rfl
              rotate_left
              · simp only [Act.put, List.setIfInBounds_toArray, List.set_cons_zero, List.set_cons_succ, i64_w, i32_w]
                rfl
              refine done_ (by kernel_rfl) ?_
              go_upto_if 63 with (fail)
              have H := HC51.out
              clear HC51
              by_cases c56 : t136 = true
              · subst c56
                have H1 : ((laws_markFeatureS.f kj18 t115 1).bind fun bt137 => ((laws_markFeature.f kj18 t118 t119 bt137.1).bind fun bt139 => (if bt139.1 < 0 then (laws_FnExactRankedFeatures.j1 kj18 l0 t111 t114 t123 true a1_0 l1_1) else ((laws_eqInt64S.f kj18 t123 t111).bind fun t141 => (if t141 = true then (laws_FnExactRankedFeatures.j1 kj18 l0 t111 t114 t123 (t126 != t114) a1_0 l1_1) else (laws_FnExactRankedFeatures.j1 kj18 l0 t111 t114 t123 true a1_0 l1_1)))))) = some r := by rw [if_pos rfl] at H; exact H
                clear H
                have H := H1
                clear H1
                replace H := Option.bind_eq_some_iff.mp H
                obtain ⟨⟨t137, t138⟩, A570, H⟩ := H
                replace H : ((laws_markFeature.f kj18 t118 t119 t137).bind fun bt139 => (if bt139.1 < 0 then (laws_FnExactRankedFeatures.j1 kj18 l0 t111 t114 t123 true a1_0 l1_1) else ((laws_eqInt64S.f kj18 t123 t111).bind fun t141 => (if t141 = true then (laws_FnExactRankedFeatures.j1 kj18 l0 t111 t114 t123 (t126 != t114) a1_0 l1_1) else (laws_FnExactRankedFeatures.j1 kj18 l0 t111 t114 t123 true a1_0 l1_1))))) = some r := H
                have A57 := Aside0.mk A570
                clear A570
                replace H := Option.bind_eq_some_iff.mp H
                obtain ⟨⟨t139, t140⟩, A580, H⟩ := H
                replace H : (if t139 < 0 then (laws_FnExactRankedFeatures.j1 kj18 l0 t111 t114 t123 true a1_0 l1_1) else ((laws_eqInt64S.f kj18 t123 t111).bind fun t141 => (if t141 = true then (laws_FnExactRankedFeatures.j1 kj18 l0 t111 t114 t123 (t126 != t114) a1_0 l1_1) else (laws_FnExactRankedFeatures.j1 kj18 l0 t111 t114 t123 true a1_0 l1_1)))) = some r := H
                have A58 := Aside0.mk A580
                clear A580
                have HC59 := Aside0.mk H
                clear H
                go_upto_region 21 with (first | ((with_reducible refine gate_callee (f := 34) rfl ?_); refine goesL_ (some 66) rfl rfl Try.func34 (by kernel_rfl) rfl #[.slice Ao33 t115.length co33, .int .i64 1] rfl (by (try simp only [List.map_toArray, List.map_cons, List.map_nil]); first | done | rfl | (simp only [List.length_drop, List.length_take]; rfl)) ?_; (with_reducible refine (laws_markFeatureS.calls kj18 ?PPA57 (.slice Ao33 t115.length co33) t115 1 t137 t138 w _ ?side1 ?side2 A57.out).mono ?_); (case side1 => repeat (first | (with_reducible first | exact HB.out | apply below_alloc | apply pw_below_drewN | apply below_drew1 | refine below_set ?_ GE101.out | refine below_set ?_ GE122.out) | exact HB.out)); (case side2 => exact Kd.S_bound HO_8.out); rintro e w60 ⟨rfl, hy0, hb, hkp⟩; refine ⟨_, rfl, ?_⟩; have n0_ := Aside0.mk (Kd.R_mono (ok' := fun k_ => some k_ ≠ (v124 : Value).ownBlock ∧ some k_ ≠ (.slice Ao32 t119.length co32 : Value).ownBlock ∧ some k_ ≠ (.slice Ao54 t133.length co54 : Value).ownBlock) (Kd.R_keptB ((Kd.R_mono (Kd.R_tight2 rfl HO_6.out) (fun k_ hk => (⟨hk.2, fun hs_ => ((And.left hs_).1.1.1) hk.1⟩ : _ ∧ ¬ (_ ∧ _))))) hkp (fun k_ hk_ hs_ => (hk_.2) hs_)) (fun k_ hk_ => ⟨hk_.1.1.1.1, hk_.1.1.1.2, hk_.1.1.2⟩)); have n1_ := Aside0.mk ((Kd.S_mono hy0 (fun _ h_ => h_.1))); have n2_ := Aside0.mk (Kd.R_mono (ok' := fun k_ => some k_ ≠ (v112 : Value).ownBlock ∧ some k_ ≠ (.slice Ao32 t119.length co32 : Value).ownBlock ∧ some k_ ≠ (.slice Ao54 t133.length co54 : Value).ownBlock) (Kd.R_keptB ((Kd.R_mono (Kd.R_tight2 rfl HO_10.out) (fun k_ hk => (⟨hk.2, fun hs_ => ((And.left hs_).1.1.2.1) hk.1⟩ : _ ∧ ¬ (_ ∧ _))))) hkp (fun k_ hk_ hs_ => (hk_.2) hs_)) (fun k_ hk_ => ⟨hk_.1.1.1.1, hk_.1.1.1.2, hk_.1.1.2⟩)); have n3_ := Aside0.mk (Kd.R_mono (ok' := fun k_ => some k_ ≠ (v112 : Value).ownBlock ∧ some k_ ≠ (v124 : Value).ownBlock ∧ some k_ ≠ (.slice Ao54 t133.length co54 : Value).ownBlock) (Kd.R_keptB ((Kd.R_mono (Kd.R_tight2 rfl HO_123001.out) (fun k_ hk => (⟨hk.2, fun hs_ => ((And.left hs_).1.1.2.2.1) hk.1⟩ : _ ∧ ¬ (_ ∧ _))))) hkp (fun k_ hk_ hs_ => (hk_.2) hs_)) (fun k_ hk_ => ⟨hk_.1.1.1.1, hk_.1.1.1.2, hk_.1.1.2⟩)); have n4_ := Aside0.mk (blk_kept (by (with_reducible repeat (first | refine blk_drewN ?_ _ | refine blk_drew ?_ | refine blk_alloc ?_ _)); exact BK101.out) hkp (fun hs_ => (fun e_ => deep_box (dA := k28) (eA := 28) BK101.out e_ (by decide)) hs_)); have n5_ := Aside0.mk (blk_kept (by (with_reducible repeat (first | refine blk_drewN ?_ _ | refine blk_drew ?_ | refine blk_alloc ?_ _)); exact BK122.out) hkp (fun hs_ => (fun e_ => ((And.left e_).1.1.2.2.2) rfl) hs_)); have n6_ := Aside0.mk (Kd.R_mono (ok' := fun k_ => some k_ ≠ (v112 : Value).ownBlock ∧ some k_ ≠ (v124 : Value).ownBlock ∧ some k_ ≠ (.slice Ao32 t119.length co32 : Value).ownBlock) (Kd.R_keptB ((Kd.R_mono (Kd.R_tight2 rfl HO135.out) (fun k_ hk => (⟨hk.2, fun hs_ => ((And.left hs_).2) hk.1⟩ : _ ∧ ¬ (_ ∧ _))))) hkp (fun k_ hk_ hs_ => (hk_.2) hs_)) (fun k_ hk_ => ⟨hk_.1.1.1.1.2, hk_.1.1.1.2, hk_.1.1.2⟩)); have n7_ := Aside0.mk (hb); clear HO_6; clear HO_8; clear HO_10; clear HO_123001; clear BK101; clear BK122; clear HO135; clear HB; clear HO130; have HO_6 := n0_; have HO_8 := n1_; have HO_10 := n2_; have HO_123001 := n3_; have BK101 := n4_; have BK122 := n5_; have HO135 := n6_; have HB := n7_; clear n0_ n1_ n2_ n3_ n4_ n5_ n6_ n7_; (try clear hb); (try clear hkp); (try clear hy0); have hnb61 := NB122_101.out; have hnc61 := NB101_122.out; have hcz62_0 : w60.cell? ⟨gb122, 0, none⟩ = some (.string t118) := (blk_cell BK122.out 0).trans rfl; have hcz62_1 : w60.cell? ⟨gb122, 1, none⟩ = some (.slice Ao32 t119.length co32) := (blk_cell BK122.out 1).trans rfl; have hfz62_0 := blk_frozen BK122.out 0; have hfz62_1 := blk_frozen BK122.out 1) | ((with_reducible refine gate_callee (f := 26) rfl ?_); refine goesL_ (some 69) rfl rfl Try.func26 (by kernel_rfl) rfl #[.agg #[.string t118, .slice Ao32 t119.length co32], .int .i64 t137] rfl (by (try simp only [List.map_toArray, List.map_cons, List.map_nil]); first | done | rfl | (simp only [List.length_drop, List.length_take]; rfl)) ?_; (with_reducible refine (laws_markFeature.calls kj18 t118 (fun k_ => some k_ = (.slice Ao32 t119.length co32 : Value).ownBlock) (.slice Ao32 t119.length co32) t119 t137 t139 t140 w _ ?side1 ?side2 A58.out).mono ?_); (case side1 => repeat (first | (with_reducible first | exact HB.out | apply below_alloc | apply pw_below_drewN | apply below_drew1 | refine below_set ?_ GE101.out | refine below_set ?_ GE122.out) | exact HB.out)); (case side2 => exact Kd.R_tight rfl HO_123001.out); rintro e w63 ⟨rfl, hy0, hb, hkp⟩; refine ⟨_, rfl, ?_⟩; have n0_ := Aside0.mk (Kd.R_mono (ok' := fun k_ => some k_ ≠ (v124 : Value).ownBlock ∧ some k_ ≠ (.slice Ao32 t119.length co32 : Value).ownBlock ∧ some k_ ≠ (.slice Ao54 t133.length co54 : Value).ownBlock) (Kd.R_keptB (HO_6.out) hkp (fun k_ hk_ hs_ => (hk_.2.1) hs_)) (fun k_ hk_ => ⟨hk_.1.1, hk_.1.2.1, hk_.1.2.2⟩)); have n1_ := Aside0.mk (Kd.S_mono (ok' := fun k_ => some k_ ≠ (v112 : Value).ownBlock ∧ some k_ ≠ (v124 : Value).ownBlock ∧ some k_ ≠ (.slice Ao32 t119.length co32 : Value).ownBlock ∧ some k_ ≠ (.slice Ao54 t133.length co54 : Value).ownBlock ∧ k_ ≠ gb122) (Kd.S_keptB (HO_8.out) hkp (fun k_ hk_ hs_ => (hk_.1.1.2.2.1) hs_)) (fun k_ hk_ => ⟨hk_.1.1.1.1, hk_.1.1.1.2.1, hk_.1.1.1.2.2.1, hk_.1.2, hk_.1.1.1.2.2.2⟩)); have n2_ := Aside0.mk (Kd.R_mono (ok' := fun k_ => some k_ ≠ (v112 : Value).ownBlock ∧ some k_ ≠ (.slice Ao32 t119.length co32 : Value).ownBlock ∧ some k_ ≠ (.slice Ao54 t133.length co54 : Value).ownBlock) (Kd.R_keptB (HO_10.out) hkp (fun k_ hk_ hs_ => (hk_.2.1) hs_)) (fun k_ hk_ => ⟨hk_.1.1, hk_.1.2.1, hk_.1.2.2⟩)); have n3_ := Aside0.mk (Kd.R_reok rfl hy0 (fun k_ e_ => HO_123001.out.1 k_ e_)); have n4_ := Aside0.mk (blk_kept (by (with_reducible repeat (first | refine blk_drewN ?_ _ | refine blk_drew ?_ | refine blk_alloc ?_ _)); exact BK101.out) hkp (fun hs_ => (fun e_ => (Kd.R_ne HO_123001.out BK101.out (by decide)) e_) hs_)); have n5_ := Aside0.mk (blk_kept (by (with_reducible repeat (first | refine blk_drewN ?_ _ | refine blk_drew ?_ | refine blk_alloc ?_ _)); exact BK122.out) hkp (fun hs_ => (fun e_ => (Kd.R_ne HO_123001.out BK122.out (by decide)) e_) hs_)); have n6_ := Aside0.mk (Kd.R_mono (ok' := fun k_ => some k_ ≠ (v112 : Value).ownBlock ∧ some k_ ≠ (v124 : Value).ownBlock ∧ some k_ ≠ (.slice Ao32 t119.length co32 : Value).ownBlock) (Kd.R_keptB (HO135.out) hkp (fun k_ hk_ hs_ => (hk_.2.2) hs_)) (fun k_ hk_ => ⟨hk_.1.1, hk_.1.2.1, hk_.1.2.2⟩)); have n7_ := Aside0.mk (hb); clear HO_6; clear HO_8; clear HO_10; clear HO_123001; clear BK101; clear BK122; clear HO135; clear HB; have HO_6 := n0_; have HO_8 := n1_; have HO_10 := n2_; have HO_123001 := n3_; have BK101 := n4_; have BK122 := n5_; have HO135 := n6_; have HB := n7_; clear n0_ n1_ n2_ n3_ n4_ n5_ n6_ n7_; (try clear hb); (try clear hkp); (try clear hy0)))
                (try simp only [Act.put, List.setIfInBounds_toArray, List.set_cons_zero, List.set_cons_succ])
                go_cut [82] (fun v82 wc => ∃ (kq : Nat) (x82_58 : Bool), v82 = .bool x82_58 ∧ Aside0 (laws_FnExactRankedFeatures.j1 kq l0 t111 t114 t123 x82_58 a1_0 l1_1 = some r) ∧ Aside0 (kq ≤ kj18) ∧ Aside0 (Kd.R (Kd.int .i64) 2 wc w.heap.size (fun k_ => some k_ ≠ (v124 : Value).ownBlock ∧ some k_ ≠ ((.slice Ao32 t119.length co32) : Value).ownBlock) v112 t111) ∧ Aside0 (Kd.R (Kd.int .i64) 2 wc w.heap.size (fun k_ => some k_ ≠ (v112 : Value).ownBlock ∧ some k_ ≠ ((.slice Ao32 t119.length co32) : Value).ownBlock) v124 t123) ∧ Aside0 (Kd.R (Kd.int .i64) 2 wc w.heap.size (fun k_ => some k_ ≠ (v112 : Value).ownBlock ∧ some k_ ≠ (v124 : Value).ownBlock) (.slice Ao32 t119.length co32) t140) ∧ Aside0 (wc.heap[gb101]? = some (.cells #[.string a1_0, (.slice A1_1 l1_1.length c1_1)] 24 (0, 0))) ∧ Aside0 (wc.heap[gb122]? = some (.cells #[.string t118, (.slice Ao32 t119.length co32)] 28 (0, 0))) ∧ Aside0 (Below w.heap.size w wc))
                case first =>
                  have H := HC59.out
                  clear HC59
                  by_cases c64 : t139 < 0
                  · rw [if_pos c64] at H
                    have c64b0 : decide (t139 < 0) = true := decide_eq_true c64
                    clear c64
                    (first | rw [c64b0] | (simp only [i64_w, i32_w]; rw [c64b0]) | (simp only [c64b2, Bool.not_true, Bool.not_false]) | (simp only [c64b1, Bool.not_true, Bool.not_false]) | (simp only [c64b0, Bool.not_true, Bool.not_false]) | skip)
                    have H' := Aside0.mk H
                    clear H
                    go_wp2
                    go_meet
                    case rel => exact ⟨_, (true), (by first | rfl | (simp; done) | (simp [*]; done)), H', ⟨by have := HJ18.out; first | omega | exact Nat.le_refl _⟩, ⟨by (with_reducible repeat (first | apply Kd.R_alloc | apply Kd.R_drewN | apply Kd.R_drew)); exact Kd.R_mono HO_6.out (fun _ hk => ⟨hk.1, hk.2.1⟩)⟩, ⟨by (with_reducible repeat (first | apply Kd.R_alloc | apply Kd.R_drewN | apply Kd.R_drew)); exact Kd.R_mono HO_10.out (fun _ hk => ⟨hk.1, hk.2.1⟩)⟩, ⟨by (with_reducible repeat (first | apply Kd.R_alloc | apply Kd.R_drewN | apply Kd.R_drew)); exact Kd.R_mono HO_123001.out (fun _ hk => ⟨hk.1, hk.2.1⟩)⟩, ⟨by (with_reducible repeat (first | refine blk_drewN ?_ _ | refine blk_drew ?_ | refine blk_alloc ?_ _)); exact BK101.out⟩, ⟨by (with_reducible repeat (first | refine blk_drewN ?_ _ | refine blk_drew ?_ | refine blk_alloc ?_ _)); exact BK122.out⟩, ⟨by repeat (first | (with_reducible first | exact HB.out | apply below_alloc | apply pw_below_drewN | apply below_drew1 | refine below_set ?_ GE101.out | refine below_set ?_ GE122.out) | exact HB.out)⟩⟩
                  · rw [if_neg c64] at H
                    have c64b0 : decide (t139 < 0) = false := decide_eq_false c64
                    clear c64
                    (first | rw [c64b0] | (simp only [i64_w, i32_w]; rw [c64b0]) | (simp only [c64b2, Bool.not_true, Bool.not_false]) | (simp only [c64b1, Bool.not_true, Bool.not_false]) | (simp only [c64b0, Bool.not_true, Bool.not_false]) | skip)
                    replace H := Option.bind_eq_some_iff.mp H
                    obtain ⟨t141, A650, H⟩ := H
                    replace H : (if t141 = true then (laws_FnExactRankedFeatures.j1 kj18 l0 t111 t114 t123 (t126 != t114) a1_0 l1_1) else (laws_FnExactRankedFeatures.j1 kj18 l0 t111 t114 t123 true a1_0 l1_1)) = some r := H
                    have A65 := Aside0.mk A650
                    clear A650
                    by_cases c66 : t141 = true
                    · subst c66
                      have H1 : (laws_FnExactRankedFeatures.j1 kj18 l0 t111 t114 t123 (t126 != t114) a1_0 l1_1) = some r := by rw [if_pos rfl] at H; exact H
                      clear H
                      have H := H1
                      clear H1
                      have H' := Aside0.mk H
                      clear H
                      obtain ⟨Ao67, co67, eo67⟩ := Kd.R_slice HO_10.out
                      subst eo67
                      obtain ⟨Ao68, co68, eo68⟩ := Kd.R_slice HO_6.out
                      subst eo68
                      go_wp2_with (first | (go_at_call 31; (with_reducible refine (laws_eqInt64S.calls kj18 _ _ t123 _ _ t111 true _ ?side1 ?side2 ?side3 ?side4 A65.out).mono ?_); (case side1 => repeat (first | exact (Kd.R_reads' HO_10.out).2.2 | (with_reducible refine Kd.C_alloc ?_ _) | (with_reducible refine Kd.C_drewN ?_ _) | (with_reducible refine Kd.C_drew ?_))); (case side2 => exact (Kd.R_reads' HO_10.out).2.1); (case side3 => repeat (first | exact (Kd.R_reads' HO_6.out).2.2 | (with_reducible refine Kd.C_alloc ?_ _) | (with_reducible refine Kd.C_drewN ?_ _) | (with_reducible refine Kd.C_drew ?_))); (case side4 => exact (Kd.R_reads' HO_6.out).2.1); rintro e w' ⟨rfl, ⟨nd, rfl⟩⟩; (try (rw [drewN_self w63]; generalize hq_ : World.drewN w63 _ = w63; have n0_ : Aside0 (Kd.R (Kd.int .i64) 2 w63 w.heap.size (fun k_ => (some k_ ≠ (.slice Ao68 t111.length co68 : Value).ownBlock ∧ (some k_ ≠ (.slice Ao67 t123.length co67 : Value).ownBlock ∧ some k_ ≠ (.slice Ao32 t119.length co32 : Value).ownBlock))) (.slice Ao54 t133.length co54) t133) := ⟨by rw [← hq_]; exact (by (with_reducible repeat (first | apply Kd.R_alloc | apply Kd.R_drewN | apply Kd.R_drew)); exact HO135.out)⟩; have n1_ : Aside0 (Kd.R (Kd.int .i64) 2 w63 w.heap.size (fun k_ => (some k_ ≠ (.slice Ao68 t111.length co68 : Value).ownBlock ∧ (some k_ ≠ (.slice Ao32 t119.length co32 : Value).ownBlock ∧ some k_ ≠ (.slice Ao54 t133.length co54 : Value).ownBlock))) (.slice Ao67 t123.length co67) t123) := ⟨by rw [← hq_]; exact (by (with_reducible repeat (first | apply Kd.R_alloc | apply Kd.R_drewN | apply Kd.R_drew)); exact HO_10.out)⟩; have n2_ : Aside0 (Kd.R (Kd.int .i64) 2 w63 w.heap.size (fun k_ => (some k_ ≠ (.slice Ao68 t111.length co68 : Value).ownBlock ∧ (some k_ ≠ (.slice Ao67 t123.length co67 : Value).ownBlock ∧ some k_ ≠ (.slice Ao54 t133.length co54 : Value).ownBlock))) (.slice Ao32 t119.length co32) t140) := ⟨by rw [← hq_]; exact (by (with_reducible repeat (first | apply Kd.R_alloc | apply Kd.R_drewN | apply Kd.R_drew)); exact HO_123001.out)⟩; have n3_ : Aside0 (Kd.R (Kd.int .i64) 2 w63 w.heap.size (fun k_ => (some k_ ≠ (.slice Ao67 t123.length co67 : Value).ownBlock ∧ (some k_ ≠ (.slice Ao32 t119.length co32 : Value).ownBlock ∧ some k_ ≠ (.slice Ao54 t133.length co54 : Value).ownBlock))) (.slice Ao68 t111.length co68) t111) := ⟨by rw [← hq_]; exact (by (with_reducible repeat (first | apply Kd.R_alloc | apply Kd.R_drewN | apply Kd.R_drew)); exact HO_6.out)⟩; have n4_ : Aside0 (Kd.S k28 28 w63 w.heap.size (fun k_ => (some k_ ≠ (.slice Ao68 t111.length co68 : Value).ownBlock ∧ (some k_ ≠ (.slice Ao67 t123.length co67 : Value).ownBlock ∧ (some k_ ≠ (.slice Ao32 t119.length co32 : Value).ownBlock ∧ (some k_ ≠ (.slice Ao54 t133.length co54 : Value).ownBlock ∧ k_ ≠ gb122))))) (.slice Ao33 t115.length co33) t138) := ⟨by rw [← hq_]; exact (by (with_reducible repeat (first | apply Kd.S_alloc | apply Kd.S_drewN | apply Kd.S_drew)); exact HO_8.out)⟩; have n5_ : Aside0 (w63.heap[gb101]? = some (.cells #[.string a1_0, .slice A1_1 l1_1.length c1_1] 24 (0, 0))) := ⟨by rw [← hq_]; exact (by (with_reducible repeat (first | refine blk_drewN ?_ _ | refine blk_drew ?_ | refine blk_alloc ?_ _)); exact BK101.out)⟩; have n6_ : Aside0 (w63.heap[gb122]? = some (.cells #[.string t118, .slice Ao32 t119.length co32] 28 (0, 0))) := ⟨by rw [← hq_]; exact (by (with_reducible repeat (first | refine blk_drewN ?_ _ | refine blk_drew ?_ | refine blk_alloc ?_ _)); exact BK122.out)⟩; have n7_ : Aside0 (Below w.heap.size w w63) := ⟨by rw [← hq_]; exact (by repeat (first | (with_reducible first | exact HB.out | apply below_alloc | apply pw_below_drewN | apply below_drew1 | refine below_set ?_ GE101.out | refine below_set ?_ GE122.out) | exact HB.out))⟩; clear HO135 HO_10 HO_123001 HO_6 HO_8 BK101 BK122 HB hq_; have HO135 := n0_; have HO_10 := n1_; have HO_123001 := n2_; have HO_6 := n3_; have HO_8 := n4_; have BK101 := n5_; have BK122 := n6_; have HB := n7_; clear n0_ n1_ n2_ n3_ n4_ n5_ n6_ n7_))))
                      go_meet
                      case rel => exact ⟨_, ((t126 != t114)), (by first | rfl | (simp; done) | (simp [*]; done)), H', ⟨by have := HJ18.out; first | omega | exact Nat.le_refl _⟩, ⟨by (with_reducible repeat (first | apply Kd.R_alloc | apply Kd.R_drewN | apply Kd.R_drew)); exact Kd.R_mono HO_6.out (fun _ hk => ⟨hk.1, hk.2.1⟩)⟩, ⟨by (with_reducible repeat (first | apply Kd.R_alloc | apply Kd.R_drewN | apply Kd.R_drew)); exact Kd.R_mono HO_10.out (fun _ hk => ⟨hk.1, hk.2.1⟩)⟩, ⟨by (with_reducible repeat (first | apply Kd.R_alloc | apply Kd.R_drewN | apply Kd.R_drew)); exact Kd.R_mono HO_123001.out (fun _ hk => ⟨hk.1, hk.2.1⟩)⟩, ⟨by (with_reducible repeat (first | refine blk_drewN ?_ _ | refine blk_drew ?_ | refine blk_alloc ?_ _)); exact BK101.out⟩, ⟨by (with_reducible repeat (first | refine blk_drewN ?_ _ | refine blk_drew ?_ | refine blk_alloc ?_ _)); exact BK122.out⟩, ⟨by repeat (first | (with_reducible first | exact HB.out | apply below_alloc | apply pw_below_drewN | apply below_drew1 | refine below_set ?_ GE101.out | refine below_set ?_ GE122.out) | exact HB.out)⟩⟩
                    · replace c66 := Bool.eq_false_iff.mpr c66
                      subst c66
                      have H1 : (laws_FnExactRankedFeatures.j1 kj18 l0 t111 t114 t123 true a1_0 l1_1) = some r := by rw [if_neg (show ¬ (false = true) by decide)] at H; exact H
                      clear H
                      have H := H1
                      clear H1
                      have H' := Aside0.mk H
                      clear H
                      obtain ⟨Ao69, co69, eo69⟩ := Kd.R_slice HO_10.out
                      subst eo69
                      obtain ⟨Ao70, co70, eo70⟩ := Kd.R_slice HO_6.out
                      subst eo70
                      go_wp2_with (first | (go_at_call 31; (with_reducible refine (laws_eqInt64S.calls kj18 _ _ t123 _ _ t111 false _ ?side1 ?side2 ?side3 ?side4 A65.out).mono ?_); (case side1 => repeat (first | exact (Kd.R_reads' HO_10.out).2.2 | (with_reducible refine Kd.C_alloc ?_ _) | (with_reducible refine Kd.C_drewN ?_ _) | (with_reducible refine Kd.C_drew ?_))); (case side2 => exact (Kd.R_reads' HO_10.out).2.1); (case side3 => repeat (first | exact (Kd.R_reads' HO_6.out).2.2 | (with_reducible refine Kd.C_alloc ?_ _) | (with_reducible refine Kd.C_drewN ?_ _) | (with_reducible refine Kd.C_drew ?_))); (case side4 => exact (Kd.R_reads' HO_6.out).2.1); rintro e w' ⟨rfl, ⟨nd, rfl⟩⟩; (try (rw [drewN_self w63]; generalize hq_ : World.drewN w63 _ = w63; have n0_ : Aside0 (Kd.R (Kd.int .i64) 2 w63 w.heap.size (fun k_ => (some k_ ≠ (.slice Ao70 t111.length co70 : Value).ownBlock ∧ (some k_ ≠ (.slice Ao69 t123.length co69 : Value).ownBlock ∧ some k_ ≠ (.slice Ao32 t119.length co32 : Value).ownBlock))) (.slice Ao54 t133.length co54) t133) := ⟨by rw [← hq_]; exact (by (with_reducible repeat (first | apply Kd.R_alloc | apply Kd.R_drewN | apply Kd.R_drew)); exact HO135.out)⟩; have n1_ : Aside0 (Kd.R (Kd.int .i64) 2 w63 w.heap.size (fun k_ => (some k_ ≠ (.slice Ao70 t111.length co70 : Value).ownBlock ∧ (some k_ ≠ (.slice Ao32 t119.length co32 : Value).ownBlock ∧ some k_ ≠ (.slice Ao54 t133.length co54 : Value).ownBlock))) (.slice Ao69 t123.length co69) t123) := ⟨by rw [← hq_]; exact (by (with_reducible repeat (first | apply Kd.R_alloc | apply Kd.R_drewN | apply Kd.R_drew)); exact HO_10.out)⟩; have n2_ : Aside0 (Kd.R (Kd.int .i64) 2 w63 w.heap.size (fun k_ => (some k_ ≠ (.slice Ao70 t111.length co70 : Value).ownBlock ∧ (some k_ ≠ (.slice Ao69 t123.length co69 : Value).ownBlock ∧ some k_ ≠ (.slice Ao54 t133.length co54 : Value).ownBlock))) (.slice Ao32 t119.length co32) t140) := ⟨by rw [← hq_]; exact (by (with_reducible repeat (first | apply Kd.R_alloc | apply Kd.R_drewN | apply Kd.R_drew)); exact HO_123001.out)⟩; have n3_ : Aside0 (Kd.R (Kd.int .i64) 2 w63 w.heap.size (fun k_ => (some k_ ≠ (.slice Ao69 t123.length co69 : Value).ownBlock ∧ (some k_ ≠ (.slice Ao32 t119.length co32 : Value).ownBlock ∧ some k_ ≠ (.slice Ao54 t133.length co54 : Value).ownBlock))) (.slice Ao70 t111.length co70) t111) := ⟨by rw [← hq_]; exact (by (with_reducible repeat (first | apply Kd.R_alloc | apply Kd.R_drewN | apply Kd.R_drew)); exact HO_6.out)⟩; have n4_ : Aside0 (Kd.S k28 28 w63 w.heap.size (fun k_ => (some k_ ≠ (.slice Ao70 t111.length co70 : Value).ownBlock ∧ (some k_ ≠ (.slice Ao69 t123.length co69 : Value).ownBlock ∧ (some k_ ≠ (.slice Ao32 t119.length co32 : Value).ownBlock ∧ (some k_ ≠ (.slice Ao54 t133.length co54 : Value).ownBlock ∧ k_ ≠ gb122))))) (.slice Ao33 t115.length co33) t138) := ⟨by rw [← hq_]; exact (by (with_reducible repeat (first | apply Kd.S_alloc | apply Kd.S_drewN | apply Kd.S_drew)); exact HO_8.out)⟩; have n5_ : Aside0 (w63.heap[gb101]? = some (.cells #[.string a1_0, .slice A1_1 l1_1.length c1_1] 24 (0, 0))) := ⟨by rw [← hq_]; exact (by (with_reducible repeat (first | refine blk_drewN ?_ _ | refine blk_drew ?_ | refine blk_alloc ?_ _)); exact BK101.out)⟩; have n6_ : Aside0 (w63.heap[gb122]? = some (.cells #[.string t118, .slice Ao32 t119.length co32] 28 (0, 0))) := ⟨by rw [← hq_]; exact (by (with_reducible repeat (first | refine blk_drewN ?_ _ | refine blk_drew ?_ | refine blk_alloc ?_ _)); exact BK122.out)⟩; have n7_ : Aside0 (Below w.heap.size w w63) := ⟨by rw [← hq_]; exact (by repeat (first | (with_reducible first | exact HB.out | apply below_alloc | apply pw_below_drewN | apply below_drew1 | refine below_set ?_ GE101.out | refine below_set ?_ GE122.out) | exact HB.out))⟩; clear HO135 HO_10 HO_123001 HO_6 HO_8 BK101 BK122 HB hq_; have HO135 := n0_; have HO_10 := n1_; have HO_123001 := n2_; have HO_6 := n3_; have HO_8 := n4_; have BK101 := n5_; have BK122 := n6_; have HB := n7_; clear n0_ n1_ n2_ n3_ n4_ n5_ n6_ n7_))))
                      go_meet
                      case rel => exact ⟨_, (true), (by first | rfl | (simp; done) | (simp [*]; done)), H', ⟨by have := HJ18.out; first | omega | exact Nat.le_refl _⟩, ⟨by (with_reducible repeat (first | apply Kd.R_alloc | apply Kd.R_drewN | apply Kd.R_drew)); exact Kd.R_mono HO_6.out (fun _ hk => ⟨hk.1, hk.2.1⟩)⟩, ⟨by (with_reducible repeat (first | apply Kd.R_alloc | apply Kd.R_drewN | apply Kd.R_drew)); exact Kd.R_mono HO_10.out (fun _ hk => ⟨hk.1, hk.2.1⟩)⟩, ⟨by (with_reducible repeat (first | apply Kd.R_alloc | apply Kd.R_drewN | apply Kd.R_drew)); exact Kd.R_mono HO_123001.out (fun _ hk => ⟨hk.1, hk.2.1⟩)⟩, ⟨by (with_reducible repeat (first | refine blk_drewN ?_ _ | refine blk_drew ?_ | refine blk_alloc ?_ _)); exact BK101.out⟩, ⟨by (with_reducible repeat (first | refine blk_drewN ?_ _ | refine blk_drew ?_ | refine blk_alloc ?_ _)); exact BK122.out⟩, ⟨by repeat (first | (with_reducible first | exact HB.out | apply below_alloc | apply pw_below_drewN | apply below_drew1 | refine below_set ?_ GE101.out | refine below_set ?_ GE122.out) | exact HB.out)⟩⟩
                case rest =>
                  clear HC59
                  try clear c1
                  try clear c2
                  try clear p2
                  try clear c3
                  try clear c4
                  try clear c5
                  try clear c6
                  try clear c7
                  try clear c7b0
                  try clear c7b1
                  try clear c7b2
                  try clear c10
                  try clear c12
                  try clear c12b0
                  try clear c12b1
                  try clear c12b2
                  try clear c14
                  try clear c16
                  try clear c17
                  try clear c19
                  try clear c21
                  try clear c26
                  try clear c30
                  try clear c31
                  try clear c34
                  try clear c36
                  try clear c40
                  try clear c41
                  try clear c44
                  try clear c48
                  try clear c56
                  try clear c61
                  try clear c64
                  try clear c64b0
                  try clear c64b1
                  try clear c64b2
                  try clear c66
                  try clear hcz10_0
                  try clear hcz10_1
                  try clear hcz27_0
                  try clear hcz27_1
                  try clear hcz31_0
                  try clear hcz31_1
                  try clear hcz62_0
                  try clear hcz62_1
                  try clear hfz10_0
                  try clear hfz10_1
                  try clear hfz27_0
                  try clear hfz27_1
                  try clear hfz31_0
                  try clear hfz31_1
                  try clear hfz62_0
                  try clear hfz62_1
                  try clear p2
                  obtain ⟨kq, x82_58, rfl, HA, HJ58, HO_6, HO_10, HO_123001, BK101, BK122, HB⟩ := hcut
                  have hl123001_58 := (Kd.R_reads' HO_123001.out).1
                  rw [hl123001_58] at HO_123001
                  (try simp only [hl123001_58])
                  (try simp only [hl123001_58] at BK101)
                  (try simp only [hl123001_58] at BK122)
                  (try simp only [hl123001_58] at HO_6)
                  (try simp only [hl123001_58] at HO_10)
                  cases kq with
                  | zero => exact absurd HA.out (by simp [laws_FnExactRankedFeatures.j1])
                  | succ kj58 =>
                    have H := HA.out
                    clear HA
                    simp only [laws_FnExactRankedFeatures.j1] at H
                    by_cases c71 : x82_58 = true
                    · subst c71
                      have H1 : (some false) = some r := by rw [if_pos rfl] at H; exact H
                      clear H
                      have H := H1
                      clear H1
                      obtain rfl := Option.some.inj H
                      go_wp2
                      go_ret
                      exact ⟨by first | rfl | (simp [errW_none, errW_some] <;> rfl) | (simp [*, errW_none, errW_some] <;> rfl), by repeat (first | (with_reducible first | exact HB.out | apply below_alloc | apply pw_below_drewN | apply below_drew1 | refine below_set ?_ GE101.out | refine below_set ?_ GE122.out) | exact HB.out)⟩
                    · replace c71 := Bool.eq_false_iff.mpr c71
                      subst c71
                      have H1 : ((laws_markInt64S.f kj58 t123 1).bind fun bt142 => ((laws_heldInt64S.f kj58 bt142.2 1).bind fun t144 => (if t144 < 0 then (some false) else (if t144 = bt142.1 then ((laws_toFeatureS.f kj58 l0).bind fun t145 => ((laws_toFeature.f kj58 a1_0 l1_1).bind fun bt148 => ((impl_RankedFeatures.f kj58 t145 bt148.1 bt148.2).bind fun bt152 => ((laws_eqInt64S.f kj58 bt152.1 t111).bind fun t156 => (if t156 = true then (laws_FnExactRankedFeatures.j2 kj58 bt142.2 bt142.1 (bt152.2 != t114)) else (laws_FnExactRankedFeatures.j2 kj58 bt142.2 bt142.1 true)))))) else (some false))))) = some r := by rw [if_neg (show ¬ (false = true) by decide)] at H; exact H
                      clear H
                      have H := H1
                      clear H1
                      replace H := Option.bind_eq_some_iff.mp H
                      obtain ⟨⟨t142, t143⟩, A720, H⟩ := H
                      replace H : ((laws_heldInt64S.f kj58 t143 1).bind fun t144 => (if t144 < 0 then (some false) else (if t144 = t142 then ((laws_toFeatureS.f kj58 l0).bind fun t145 => ((laws_toFeature.f kj58 a1_0 l1_1).bind fun bt148 => ((impl_RankedFeatures.f kj58 t145 bt148.1 bt148.2).bind fun bt152 => ((laws_eqInt64S.f kj58 bt152.1 t111).bind fun t156 => (if t156 = true then (laws_FnExactRankedFeatures.j2 kj58 t143 t142 (bt152.2 != t114)) else (laws_FnExactRankedFeatures.j2 kj58 t143 t142 true)))))) else (some false)))) = some r := H
                      have A72 := Aside0.mk A720
                      clear A720
                      replace H := Option.bind_eq_some_iff.mp H
                      obtain ⟨t144, A730, H⟩ := H
                      replace H : (if t144 < 0 then (some false) else (if t144 = t142 then ((laws_toFeatureS.f kj58 l0).bind fun t145 => ((laws_toFeature.f kj58 a1_0 l1_1).bind fun bt148 => ((impl_RankedFeatures.f kj58 t145 bt148.1 bt148.2).bind fun bt152 => ((laws_eqInt64S.f kj58 bt152.1 t111).bind fun t156 => (if t156 = true then (laws_FnExactRankedFeatures.j2 kj58 t143 t142 (bt152.2 != t114)) else (laws_FnExactRankedFeatures.j2 kj58 t143 t142 true)))))) else (some false))) = some r := H
                      have A73 := Aside0.mk A730
                      clear A730
                      have HC74 := Aside0.mk H
                      clear H
                      obtain ⟨Ao75, co75, eo75⟩ := Kd.R_slice HO_10.out
                      subst eo75
                      go_upto_if 90 with (first | ((with_reducible refine gate_callee (f := 45) rfl ?_); refine goesL_ (some 85) rfl rfl Try.func45 (by kernel_rfl) rfl #[.slice Ao75 t123.length co75, .int .i64 1] rfl (by (try simp only [List.map_toArray, List.map_cons, List.map_nil]); first | done | rfl | (simp only [List.length_drop, List.length_take]; rfl)) ?_; (with_reducible refine (laws_markInt64S.calls kj58 (fun k_ => some k_ = (.slice Ao75 t123.length co75 : Value).ownBlock) (.slice Ao75 t123.length co75) t123 1 t142 t143 w _ ?side1 ?side2 A72.out).mono ?_); (case side1 => repeat (first | (with_reducible first | exact HB.out | apply below_alloc | apply pw_below_drewN | apply below_drew1 | refine below_set ?_ GE101.out | refine below_set ?_ GE122.out) | exact HB.out)); (case side2 => exact Kd.R_tight rfl HO_10.out); rintro e w76 ⟨rfl, hy0, hb, hkp⟩; refine ⟨_, rfl, ?_⟩; have n0_ := Aside0.mk (Kd.R_mono (ok' := fun k_ => some k_ ≠ (.slice Ao75 t123.length co75 : Value).ownBlock ∧ some k_ ≠ (.slice Ao32 t140.length co32 : Value).ownBlock) (Kd.R_keptB (HO_6.out) hkp (fun k_ hk_ hs_ => (hk_.1) hs_)) (fun k_ hk_ => ⟨hk_.1.1, hk_.1.2⟩)); have n1_ := Aside0.mk (Kd.R_reok rfl hy0 (fun k_ e_ => HO_10.out.1 k_ e_)); have n2_ := Aside0.mk (Kd.R_mono (ok' := fun k_ => some k_ ≠ (v112 : Value).ownBlock ∧ some k_ ≠ (.slice Ao75 t123.length co75 : Value).ownBlock) (Kd.R_keptB (HO_123001.out) hkp (fun k_ hk_ hs_ => (hk_.2) hs_)) (fun k_ hk_ => ⟨hk_.1.1, hk_.1.2⟩)); have n3_ := Aside0.mk (blk_kept (by (with_reducible repeat (first | refine blk_drewN ?_ _ | refine blk_drew ?_ | refine blk_alloc ?_ _)); exact BK101.out) hkp (fun hs_ => (fun e_ => (Kd.R_ne HO_10.out BK101.out (by decide)) e_) hs_)); have n4_ := Aside0.mk (blk_kept (by (with_reducible repeat (first | refine blk_drewN ?_ _ | refine blk_drew ?_ | refine blk_alloc ?_ _)); exact BK122.out) hkp (fun hs_ => (fun e_ => (Kd.R_ne HO_10.out BK122.out (by decide)) e_) hs_)); have n5_ := Aside0.mk (hb); clear HO_6; clear HO_10; clear HO_123001; clear BK101; clear BK122; clear HB; have HO_6 := n0_; have HO_10 := n1_; have HO_123001 := n2_; have BK101 := n3_; have BK122 := n4_; have HB := n5_; clear n0_ n1_ n2_ n3_ n4_ n5_; (try clear hb); (try clear hkp); (try clear hy0)) | ((with_reducible refine gate_callee (f := 46) rfl ?_); refine goesL_ (some 88) rfl rfl Try.func46 (by kernel_rfl) rfl #[.slice Ao75 t143.length co75, .int .i64 1] rfl (by (try simp only [List.map_toArray, List.map_cons, List.map_nil]); first | done | (rw [show t143.length = t123.length from (Kd.R_reads' HO_10.out).1.symm] <;> rfl) | rfl | (simp only [List.length_drop, List.length_take]; rfl)) ?_; (with_reducible refine (laws_heldInt64S.calls kj58 _ _ t143 1 t144 _ ?side1 ?side2 A73.out).mono ?_); (case side1 => repeat (first | exact (Kd.R_reads' HO_10.out).2.2 | (with_reducible refine Kd.C_alloc ?_ _) | (with_reducible refine Kd.C_drewN ?_ _) | (with_reducible refine Kd.C_drew ?_))); (case side2 => rw [show t143.length = t123.length from (Kd.R_reads' HO_10.out).1.symm]; exact (Kd.R_reads' HO_10.out).2.1); rintro e w' ⟨rfl, ⟨nd, rfl⟩⟩; refine ⟨_, rfl, ?_⟩; (try (rw [drewN_self w76]; generalize hq_ : World.drewN w76 _ = w76; have n0_ : Aside0 (Kd.R (Kd.int .i64) 2 w76 w.heap.size (fun k_ => (some k_ ≠ (v112 : Value).ownBlock ∧ some k_ ≠ (.slice Ao32 t140.length co32 : Value).ownBlock)) (.slice Ao75 t123.length co75) t143) := ⟨by rw [← hq_]; exact (by (with_reducible repeat (first | apply Kd.R_alloc | apply Kd.R_drewN | apply Kd.R_drew)); exact HO_10.out)⟩; have n1_ : Aside0 (Kd.R (Kd.int .i64) 2 w76 w.heap.size (fun k_ => (some k_ ≠ (v112 : Value).ownBlock ∧ some k_ ≠ (.slice Ao75 t123.length co75 : Value).ownBlock)) (.slice Ao32 t140.length co32) t140) := ⟨by rw [← hq_]; exact (by (with_reducible repeat (first | apply Kd.R_alloc | apply Kd.R_drewN | apply Kd.R_drew)); exact HO_123001.out)⟩; have n2_ : Aside0 (Kd.R (Kd.int .i64) 2 w76 w.heap.size (fun k_ => (some k_ ≠ (.slice Ao75 t123.length co75 : Value).ownBlock ∧ some k_ ≠ (.slice Ao32 t140.length co32 : Value).ownBlock)) v112 t111) := ⟨by rw [← hq_]; exact (by (with_reducible repeat (first | apply Kd.R_alloc | apply Kd.R_drewN | apply Kd.R_drew)); exact HO_6.out)⟩; have n3_ : Aside0 (w76.heap[gb101]? = some (.cells #[.string a1_0, .slice A1_1 l1_1.length c1_1] 24 (0, 0))) := ⟨by rw [← hq_]; exact (by (with_reducible repeat (first | refine blk_drewN ?_ _ | refine blk_drew ?_ | refine blk_alloc ?_ _)); exact BK101.out)⟩; have n4_ : Aside0 (w76.heap[gb122]? = some (.cells #[.string t118, .slice Ao32 t140.length co32] 28 (0, 0))) := ⟨by rw [← hq_]; exact (by (with_reducible repeat (first | refine blk_drewN ?_ _ | refine blk_drew ?_ | refine blk_alloc ?_ _)); exact BK122.out)⟩; have n5_ : Aside0 (Below w.heap.size w w76) := ⟨by rw [← hq_]; exact (by repeat (first | (with_reducible first | exact HB.out | apply below_alloc | apply pw_below_drewN | apply below_drew1 | refine below_set ?_ GE101.out | refine below_set ?_ GE122.out) | exact HB.out))⟩; clear HO_10 HO_123001 HO_6 BK101 BK122 HB hq_; have HO_10 := n0_; have HO_123001 := n1_; have HO_6 := n2_; have BK101 := n3_; have BK122 := n4_; have HB := n5_; clear n0_ n1_ n2_ n3_ n4_ n5_))))
                      (try simp only [Act.put, List.setIfInBounds_toArray, List.set_cons_zero, List.set_cons_succ])
                      have H := HC74.out
                      clear HC74
                      by_cases c77 : t144 < 0
                      · rw [if_pos c77] at H
                        have c77b0 : decide (t144 < 0) = true := decide_eq_true c77
                        clear c77
                        (first | rw [c77b0] | (simp only [i64_w, i32_w]; rw [c77b0]) | (simp only [c77b2, Bool.not_true, Bool.not_false]) | (simp only [c77b1, Bool.not_true, Bool.not_false]) | (simp only [c77b0, Bool.not_true, Bool.not_false]) | skip)
                        obtain rfl := Option.some.inj H
                        go_wp2
                        go_ret
                        exact ⟨by first | rfl | (simp [errW_none, errW_some] <;> rfl) | (simp [*, errW_none, errW_some] <;> rfl), by repeat (first | (with_reducible first | exact HB.out | apply below_alloc | apply pw_below_drewN | apply below_drew1 | refine below_set ?_ GE101.out | refine below_set ?_ GE122.out) | exact HB.out)⟩
                      · rw [if_neg c77] at H
                        have c77b0 : decide (t144 < 0) = false := decide_eq_false c77
                        clear c77
                        (first | rw [c77b0] | (simp only [i64_w, i32_w]; rw [c77b0]) | (simp only [c77b2, Bool.not_true, Bool.not_false]) | (simp only [c77b1, Bool.not_true, Bool.not_false]) | (simp only [c77b0, Bool.not_true, Bool.not_false]) | skip)
                        by_cases c78 : t144 = t142
                        · rw [if_pos c78] at H
                          have c78b0 : (t144 == t142) = true := beq_iff_eq.mpr c78
                          have c78b1 : (t144 != t142) = false := bne_eq_false_iff_eq.mpr c78
                          clear c78
                          replace H := Option.bind_eq_some_iff.mp H
                          obtain ⟨t145, A790, H⟩ := H
                          replace H : ((laws_toFeature.f kj58 a1_0 l1_1).bind fun bt148 => ((impl_RankedFeatures.f kj58 t145 bt148.1 bt148.2).bind fun bt152 => ((laws_eqInt64S.f kj58 bt152.1 t111).bind fun t156 => (if t156 = true then (laws_FnExactRankedFeatures.j2 kj58 t143 t142 (bt152.2 != t114)) else (laws_FnExactRankedFeatures.j2 kj58 t143 t142 true))))) = some r := H
                          have A79 := Aside0.mk A790
                          clear A790
                          replace H := Option.bind_eq_some_iff.mp H
                          obtain ⟨⟨t148, t149⟩, A800, H⟩ := H
                          replace H : ((impl_RankedFeatures.f kj58 t145 t148 t149).bind fun bt152 => ((laws_eqInt64S.f kj58 bt152.1 t111).bind fun t156 => (if t156 = true then (laws_FnExactRankedFeatures.j2 kj58 t143 t142 (bt152.2 != t114)) else (laws_FnExactRankedFeatures.j2 kj58 t143 t142 true)))) = some r := H
                          have A80 := Aside0.mk A800
                          clear A800
                          replace H := Option.bind_eq_some_iff.mp H
                          obtain ⟨⟨t152, t155⟩, A810, H⟩ := H
                          replace H : ((laws_eqInt64S.f kj58 t152 t111).bind fun t156 => (if t156 = true then (laws_FnExactRankedFeatures.j2 kj58 t143 t142 (t155 != t114)) else (laws_FnExactRankedFeatures.j2 kj58 t143 t142 true))) = some r := H
                          have A81 := Aside0.mk A810
                          clear A810
                          have HC82 := Aside0.mk H
                          clear H
                          try go_wp2
                          (try (rw [drewN_self w76]; generalize hq_ : World.drewN w76 _ = w76; have n0_ : Aside0 (Kd.R (Kd.int .i64) 2 w76 w.heap.size (fun k_ => (some k_ ≠ (v112 : Value).ownBlock ∧ some k_ ≠ (.slice Ao32 t140.length co32 : Value).ownBlock)) (.slice Ao75 t123.length co75) t143) := ⟨by rw [← hq_]; exact (by (with_reducible repeat (first | apply Kd.R_alloc | apply Kd.R_drewN | apply Kd.R_drew)); exact HO_10.out)⟩; have n1_ : Aside0 (Kd.R (Kd.int .i64) 2 w76 w.heap.size (fun k_ => (some k_ ≠ (v112 : Value).ownBlock ∧ some k_ ≠ (.slice Ao75 t123.length co75 : Value).ownBlock)) (.slice Ao32 t140.length co32) t140) := ⟨by rw [← hq_]; exact (by (with_reducible repeat (first | apply Kd.R_alloc | apply Kd.R_drewN | apply Kd.R_drew)); exact HO_123001.out)⟩; have n2_ : Aside0 (Kd.R (Kd.int .i64) 2 w76 w.heap.size (fun k_ => (some k_ ≠ (.slice Ao75 t123.length co75 : Value).ownBlock ∧ some k_ ≠ (.slice Ao32 t140.length co32 : Value).ownBlock)) v112 t111) := ⟨by rw [← hq_]; exact (by (with_reducible repeat (first | apply Kd.R_alloc | apply Kd.R_drewN | apply Kd.R_drew)); exact HO_6.out)⟩; have n3_ : Aside0 (w76.heap[gb101]? = some (.cells #[.string a1_0, .slice A1_1 l1_1.length c1_1] 24 (0, 0))) := ⟨by rw [← hq_]; exact (by (with_reducible repeat (first | refine blk_drewN ?_ _ | refine blk_drew ?_ | refine blk_alloc ?_ _)); exact BK101.out)⟩; have n4_ : Aside0 (w76.heap[gb122]? = some (.cells #[.string t118, .slice Ao32 t140.length co32] 28 (0, 0))) := ⟨by rw [← hq_]; exact (by (with_reducible repeat (first | refine blk_drewN ?_ _ | refine blk_drew ?_ | refine blk_alloc ?_ _)); exact BK122.out)⟩; have n5_ : Aside0 (Below w.heap.size w w76) := ⟨by rw [← hq_]; exact (by repeat (first | (with_reducible first | exact HB.out | apply below_alloc | apply pw_below_drewN | apply below_drew1 | refine below_set ?_ GE101.out | refine below_set ?_ GE122.out) | exact HB.out))⟩; clear HO_10 HO_123001 HO_6 BK101 BK122 HB hq_; have HO_10 := n0_; have HO_123001 := n1_; have HO_6 := n2_; have BK101 := n3_; have BK122 := n4_; have HB := n5_; clear n0_ n1_ n2_ n3_ n4_ n5_))
                          have n0_ := Aside0.mk (Kd.R_drew HO_6.out)
                          have n1_ := Aside0.mk (Kd.R_drew HO_10.out)
                          have n2_ := Aside0.mk (Kd.R_drew HO_123001.out)
                          have n3_ := Aside0.mk (blk_drew BK101.out)
                          have n4_ := Aside0.mk (blk_drew BK122.out)
                          have n5_ := Aside0.mk (below_drew1 HB.out)
                          clear HO_6
                          clear HO_10
                          clear HO_123001
                          clear BK101
                          clear BK122
                          clear HB
                          have HO_6 := n0_
                          have HO_10 := n1_
                          have HO_123001 := n2_
                          have BK101 := n3_
                          have BK122 := n4_
                          have HB := n5_
                          clear n0_ n1_ n2_ n3_ n4_ n5_
                          refine start_ (n := 10) (S := fun w' => w'.cell? ⟨gb101, 0, none⟩ = some (.string a1_0) ∧ w'.cell? ⟨gb101, 1, none⟩ = some (.slice A1_1 l1_1.length c1_1)) (ds := []) #[false, false, false, false, false, false, false, false, false, false] (by kernel_rfl) rfl rfl ⟨(blk_cell BK101.out 0).trans rfl, (blk_cell BK101.out 1).trans rfl⟩ (fun hHeld => ?_); refine with_tabW laws_FnExactRankedFeatures.tab31 laws_FnExactRankedFeatures.bits31 (fun HT_ HW_ => ?_)
                          generalize w76.drew = w83 at HO_6 HO_10 HO_123001 BK101 BK122 HB hHeld ⊢
                          refine pure_ (i := 0) (N := some 95) (v := ?_) (a' := ?_) #[true, false, false, false, false, false, false, false, false, false] rfl rfl (any_of HT_.out (by kernel_rfl)) (fun _ _ _ h => h) (Or.inl ⟨by rfl, ?_⟩) ?_ ?_
                          rotate_left
                          · intro w'
                            go_simp
                            with_reducible rfl
                          rotate_left
                          · simp only [Act.put, List.setIfInBounds_toArray, List.set_cons_zero, List.set_cons_succ, i64_w, i32_w]
                            rfl
                          refine take_ (i := 2) (N := some 97) (v := ?_) (a' := ?_) #[true, false, true, false, false, false, false, false, false, false] rfl rfl (take_ofW HT_.out HW_.out (by kernel_rfl)) (fun _ _ _ h => h) (Or.inl ⟨by rfl, ?_⟩) hHeld ?_ ?_
                          rotate_left
                          · rintro w' ⟨s0, s1⟩
                            go_simp
                            with_reducible rfl
                          rotate_left
                          · simp only [Act.put, List.setIfInBounds_toArray, List.set_cons_zero, List.set_cons_succ, i64_w, i32_w]
                            rfl
                          refine one_ (i := 1) (N := some 96) #[true, true, true, false, false, false, false, false, false, false] rfl rfl (one_of HT_.out (by kernel_rfl)) (by decide) (fun K hK => ?_)
                          (first | refine goes_ Try.func19 (by kernel_rfl) rfl #[.slice A0 l0.length c0] (by rfl) rfl rfl (by (try simp only [List.map_toArray, List.map_cons, List.map_nil]); first | done | rfl | (simp only [List.length_drop, List.length_take]; rfl)) ?_ | refine RPW.goesV_ Try.func19 (by kernel_rfl) rfl #[.slice A0 l0.length c0] (by rfl) rfl rfl rfl (by (try simp only [List.map_toArray, List.map_cons, List.map_nil]); first | done | rfl | (simp only [List.length_drop, List.length_take]; rfl)) ?_ | refine RPW.goesC_ Try.func19 (by kernel_rfl) rfl #[.slice A0 l0.length c0] (by rfl) rfl rfl rfl (by (try simp only [List.map_toArray, List.map_cons, List.map_nil]); first | done | rfl | (simp only [List.length_drop, List.length_take]; rfl)) ?_)
                          with_reducible refine (laws_toFeatureS.calls kj58 _ _ l0 t145 _ ?side1 ?side2 A79.out).mono ?_
                          (case side1 => repeat (first | exact (Kd.C_below HR0.out HB.out) | (with_reducible refine Kd.C_alloc ?_ _) | (with_reducible refine Kd.C_drewN ?_ _) | (with_reducible refine Kd.C_drew ?_)))
                          (case side2 => exact HC0.out)
                          rintro e w84 ⟨v146, rfl, ho0, hb⟩
                          refine ⟨_, rfl, ?_⟩
                          have n0_ := Aside0.mk (Kd.R_below (by (with_reducible repeat (first | apply Kd.R_alloc | apply Kd.R_drewN | apply Kd.R_drew)); exact HO_6.out) hb)
                          have n1_ := Aside0.mk (Kd.R_below (by (with_reducible repeat (first | apply Kd.R_alloc | apply Kd.R_drewN | apply Kd.R_drew)); exact HO_10.out) hb)
                          have n2_ := Aside0.mk (Kd.R_below (by (with_reducible repeat (first | apply Kd.R_alloc | apply Kd.R_drewN | apply Kd.R_drew)); exact HO_123001.out) hb)
                          have n3_ := Aside0.mk (Kd.S_lower (Kd.S_newB (Kd.S_new' (Kd.S_new' (Kd.S_new' ho0 (Kd.R_lt (by (with_reducible repeat (first | apply Kd.R_alloc | apply Kd.R_drewN | apply Kd.R_drew)); exact HO_6.out))) (Kd.R_lt (by (with_reducible repeat (first | apply Kd.R_alloc | apply Kd.R_drewN | apply Kd.R_drew)); exact HO_10.out))) (Kd.R_lt (by (with_reducible repeat (first | apply Kd.R_alloc | apply Kd.R_drewN | apply Kd.R_drew)); exact HO_123001.out))) (g := gb122) (o := .cells #[.string t118, .slice Ao32 t140.length co32] 28 (0, 0)) (by (with_reducible repeat (first | refine blk_drewN ?_ _ | refine blk_drew ?_ | refine blk_alloc ?_ _)); exact BK122.out)) (below_size (by repeat (first | (with_reducible first | exact HB.out | apply below_alloc | apply pw_below_drewN | apply below_drew1 | refine below_set ?_ GE101.out | refine below_set ?_ GE122.out) | exact HB.out))))
                          have n4_ := Aside0.mk (blk_below (g := gb101) (o := .cells #[.string a1_0, .slice A1_1 l1_1.length c1_1] 24 (0, 0)) (by (with_reducible repeat (first | refine blk_drewN ?_ _ | refine blk_drew ?_ | refine blk_alloc ?_ _)); exact BK101.out) hb)
                          have n5_ := Aside0.mk (blk_below (g := gb122) (o := .cells #[.string t118, .slice Ao32 t140.length co32] 28 (0, 0)) (by (with_reducible repeat (first | refine blk_drewN ?_ _ | refine blk_drew ?_ | refine blk_alloc ?_ _)); exact BK122.out) hb)
                          have n6_ := Aside0.mk (below_step (by repeat (first | (with_reducible first | exact HB.out | apply below_alloc | apply pw_below_drewN | apply below_drew1 | refine below_set ?_ GE101.out | refine below_set ?_ GE122.out) | exact HB.out)) hb)
                          clear HO_6
                          clear HO_10
                          clear HO_123001
                          clear BK101
                          clear BK122
                          clear HB
                          have HO_6 := n0_
                          have HO_10 := n1_
                          have HO_123001 := n2_
                          have HO147 := n3_
                          have BK101 := n4_
                          have BK122 := n5_
                          have HB := n6_
                          clear n0_ n1_ n2_ n3_ n4_ n5_ n6_
                          (try clear hb)
                          (try clear hb2)
                          (try clear hk)
                          (try clear hi)
                          (try clear ho0)
                          refine hK.out _ _ ⟨(blk_cell BK101.out 0).trans rfl, (blk_cell BK101.out 1).trans rfl⟩ (fun hHeld => ?_)
                          clear hK K
                          refine norm_ (a' := ?_) ?_ ?_
                          rotate_left
                          · show Act.put _ (some 96) _ = _
                            simp only [Act.put, List.setIfInBounds_toArray, List.set_cons_zero, List.set_cons_succ, i64_w, i32_w]
                            rfl
                          refine one_ (i := 3) (N := some 98) #[true, true, true, true, false, false, false, false, false, false] rfl rfl (one_of HT_.out (by kernel_rfl)) (by decide) (fun K hK => ?_)
                          (first | refine goes_ Try.func14 (by kernel_rfl) rfl #[.agg #[.string a1_0, .slice A1_1 l1_1.length c1_1]] (by rfl) rfl rfl (by (try simp only [List.map_toArray, List.map_cons, List.map_nil]); first | done | rfl | (simp only [List.length_drop, List.length_take]; rfl)) ?_ | refine RPW.goesV_ Try.func14 (by kernel_rfl) rfl #[.agg #[.string a1_0, .slice A1_1 l1_1.length c1_1]] (by rfl) rfl rfl rfl (by (try simp only [List.map_toArray, List.map_cons, List.map_nil]); first | done | rfl | (simp only [List.length_drop, List.length_take]; rfl)) ?_ | refine RPW.goesC_ Try.func14 (by kernel_rfl) rfl #[.agg #[.string a1_0, .slice A1_1 l1_1.length c1_1]] (by rfl) rfl rfl rfl (by (try simp only [List.map_toArray, List.map_cons, List.map_nil]); first | done | rfl | (simp only [List.length_drop, List.length_take]; rfl)) ?_)
                          with_reducible refine (laws_toFeature.calls kj58 a1_0 _ _ l1_1 t148 t149 _ ?side1 ?side2 A80.out).mono ?_
                          (case side1 => repeat (first | exact (Kd.C_below HR1_1.out HB.out) | (with_reducible refine Kd.C_alloc ?_ _) | (with_reducible refine Kd.C_drewN ?_ _) | (with_reducible refine Kd.C_drew ?_)))
                          (case side2 => exact HC1_1.out)
                          rintro e w85 ⟨v150, rfl, ho0, hb⟩
                          refine ⟨_, rfl, ?_⟩
                          have n0_ := Aside0.mk (Kd.R_elder' (by (with_reducible repeat (first | apply Kd.R_alloc | apply Kd.R_drewN | apply Kd.R_drew)); exact HO_6.out) (Kd.R_base ho0) hb)
                          have n1_ := Aside0.mk (Kd.R_elder' (by (with_reducible repeat (first | apply Kd.R_alloc | apply Kd.R_drewN | apply Kd.R_drew)); exact HO_10.out) (Kd.R_base ho0) hb)
                          have n2_ := Aside0.mk (Kd.R_elder' (by (with_reducible repeat (first | apply Kd.R_alloc | apply Kd.R_drewN | apply Kd.R_drew)); exact HO_123001.out) (Kd.R_base ho0) hb)
                          have n3_ := Aside0.mk (Kd.S_elder' (by (with_reducible repeat (first | apply Kd.S_alloc | apply Kd.S_drewN | apply Kd.S_drew)); exact HO147.out) (Kd.R_base ho0) hb)
                          have n4_ := Aside0.mk (Kd.R_lower (Kd.R_new' (Kd.R_new' (Kd.R_new' ho0 (Kd.R_lt (by (with_reducible repeat (first | apply Kd.R_alloc | apply Kd.R_drewN | apply Kd.R_drew)); exact HO_6.out))) (Kd.R_lt (by (with_reducible repeat (first | apply Kd.R_alloc | apply Kd.R_drewN | apply Kd.R_drew)); exact HO_10.out))) (Kd.R_lt (by (with_reducible repeat (first | apply Kd.R_alloc | apply Kd.R_drewN | apply Kd.R_drew)); exact HO_123001.out))) (below_size (by repeat (first | (with_reducible first | exact HB.out | apply below_alloc | apply pw_below_drewN | apply below_drew1 | refine below_set ?_ GE101.out | refine below_set ?_ GE122.out) | exact HB.out))))
                          have n5_ := Aside0.mk (blk_below (g := gb101) (o := .cells #[.string a1_0, .slice A1_1 l1_1.length c1_1] 24 (0, 0)) (by (with_reducible repeat (first | refine blk_drewN ?_ _ | refine blk_drew ?_ | refine blk_alloc ?_ _)); exact BK101.out) hb)
                          have n6_ := Aside0.mk (blk_below (g := gb122) (o := .cells #[.string t118, .slice Ao32 t140.length co32] 28 (0, 0)) (by (with_reducible repeat (first | refine blk_drewN ?_ _ | refine blk_drew ?_ | refine blk_alloc ?_ _)); exact BK122.out) hb)
                          have n7_ := Aside0.mk (below_step (by repeat (first | (with_reducible first | exact HB.out | apply below_alloc | apply pw_below_drewN | apply below_drew1 | refine below_set ?_ GE101.out | refine below_set ?_ GE122.out) | exact HB.out)) hb)
                          clear HO_6
                          clear HO_10
                          clear HO_123001
                          clear HO147
                          clear BK101
                          clear BK122
                          clear HB
                          have HO_6 := n0_
                          have HO_10 := n1_
                          have HO_123001 := n2_
                          have HO147 := n3_
                          have HO151 := n4_
                          have BK101 := n5_
                          have BK122 := n6_
                          have HB := n7_
                          clear n0_ n1_ n2_ n3_ n4_ n5_ n6_ n7_
                          (try clear hb)
                          (try clear hb2)
                          (try clear hk)
                          (try clear hi)
                          (try clear ho0)
                          obtain ⟨Ao86, co86, eo86⟩ := Kd.S_slice HO147.out
                          (first | subst eo86 | (injection eo86 with f1_ f2_ f3_; have f4_ := f1_.symm; have f5_ := f3_.symm; clear f1_ f2_ f3_; subst f4_; subst f5_))
                          obtain ⟨Ao87, co87, eo87⟩ := Kd.R_slice HO151.out
                          (first | subst eo87 | (injection eo87 with f1_ f2_ f3_; have f4_ := f1_.symm; have f5_ := f3_.symm; clear f1_ f2_ f3_; subst f4_; subst f5_))
                          refine hK.out _ _ ⟨(blk_cell BK101.out 0).trans rfl, (blk_cell BK101.out 1).trans rfl⟩ (fun hHeld => ?_)
                          clear hK K
                          refine norm_ (a' := ?_) ?_ ?_
                          rotate_left
                          · show Act.put _ (some 98) _ = _
                            simp only [Act.put, List.setIfInBounds_toArray, List.set_cons_zero, List.set_cons_succ, i64_w, i32_w]
                            rfl
                          refine one_ (i := 4) (N := some 99) #[true, true, true, true, true, false, false, false, false, false] rfl rfl (one_of HT_.out (by kernel_rfl)) (by decide) (fun K hK => ?_)
                          (first | refine goes_ Try.func40 (by kernel_rfl) rfl #[.slice Ao86 t145.length co86, .agg #[.string t148, .slice Ao87 t149.length co87]] (by rfl) rfl rfl (by (try simp only [List.map_toArray, List.map_cons, List.map_nil]); first | done | rfl | (simp only [List.length_drop, List.length_take]; rfl)) ?_ | refine RPW.goesV_ Try.func40 (by kernel_rfl) rfl #[.slice Ao86 t145.length co86, .agg #[.string t148, .slice Ao87 t149.length co87]] (by rfl) rfl rfl rfl (by (try simp only [List.map_toArray, List.map_cons, List.map_nil]); first | done | rfl | (simp only [List.length_drop, List.length_take]; rfl)) ?_ | refine RPW.goesC_ Try.func40 (by kernel_rfl) rfl #[.slice Ao86 t145.length co86, .agg #[.string t148, .slice Ao87 t149.length co87]] (by rfl) rfl rfl rfl (by (try simp only [List.map_toArray, List.map_cons, List.map_nil]); first | done | rfl | (simp only [List.length_drop, List.length_take]; rfl)) ?_)
                          with_reducible refine (impl_RankedFeatures.calls kj58 _ _ t145 t148 _ _ t149 t152 t155 _ ?side1 ?side2 ?side3 ?side4 A81.out).mono ?_
                          (case side1 => repeat (first | exact (Kd.S_reads' HO147.out).2.2 | (with_reducible refine Kd.C_alloc ?_ _) | (with_reducible refine Kd.C_drewN ?_ _) | (with_reducible refine Kd.C_drew ?_)))
                          (case side2 => exact (Kd.S_reads' HO147.out).2.1)
                          (case side3 => repeat (first | exact (Kd.R_reads' HO151.out).2.2 | (with_reducible refine Kd.C_alloc ?_ _) | (with_reducible refine Kd.C_drewN ?_ _) | (with_reducible refine Kd.C_drew ?_)))
                          (case side4 => exact (Kd.R_reads' HO151.out).2.1)
                          rintro e w88 ⟨v153, rfl, ho0, hb⟩
                          refine ⟨_, rfl, ?_⟩
                          have n0_ := Aside0.mk (Kd.R_elder' (by (with_reducible repeat (first | apply Kd.R_alloc | apply Kd.R_drewN | apply Kd.R_drew)); exact HO_6.out) (Kd.R_base ho0) hb)
                          have n1_ := Aside0.mk (Kd.R_elder' (by (with_reducible repeat (first | apply Kd.R_alloc | apply Kd.R_drewN | apply Kd.R_drew)); exact HO_10.out) (Kd.R_base ho0) hb)
                          have n2_ := Aside0.mk (Kd.R_elder' (by (with_reducible repeat (first | apply Kd.R_alloc | apply Kd.R_drewN | apply Kd.R_drew)); exact HO_123001.out) (Kd.R_base ho0) hb)
                          have n3_ := Aside0.mk (Kd.S_elder' (by (with_reducible repeat (first | apply Kd.S_alloc | apply Kd.S_drewN | apply Kd.S_drew)); exact HO147.out) (Kd.R_base ho0) hb)
                          have n4_ := Aside0.mk (Kd.R_elder' (by (with_reducible repeat (first | apply Kd.R_alloc | apply Kd.R_drewN | apply Kd.R_drew)); exact HO151.out) (Kd.R_base ho0) hb)
                          have n5_ := Aside0.mk (Kd.R_lower (Kd.R_new' (Kd.R_new' (Kd.R_new' (Kd.R_new' ho0 (Kd.R_lt (by (with_reducible repeat (first | apply Kd.R_alloc | apply Kd.R_drewN | apply Kd.R_drew)); exact HO_6.out))) (Kd.R_lt (by (with_reducible repeat (first | apply Kd.R_alloc | apply Kd.R_drewN | apply Kd.R_drew)); exact HO_10.out))) (Kd.R_lt (by (with_reducible repeat (first | apply Kd.R_alloc | apply Kd.R_drewN | apply Kd.R_drew)); exact HO_123001.out))) (Kd.R_lt (by (with_reducible repeat (first | apply Kd.R_alloc | apply Kd.R_drewN | apply Kd.R_drew)); exact HO151.out))) (below_size (by repeat (first | (with_reducible first | exact HB.out | apply below_alloc | apply pw_below_drewN | apply below_drew1 | refine below_set ?_ GE101.out | refine below_set ?_ GE122.out) | exact HB.out))))
                          have n6_ := Aside0.mk (blk_below (g := gb101) (o := .cells #[.string a1_0, .slice A1_1 l1_1.length c1_1] 24 (0, 0)) (by (with_reducible repeat (first | refine blk_drewN ?_ _ | refine blk_drew ?_ | refine blk_alloc ?_ _)); exact BK101.out) hb)
                          have n7_ := Aside0.mk (blk_below (g := gb122) (o := .cells #[.string t118, .slice Ao32 t140.length co32] 28 (0, 0)) (by (with_reducible repeat (first | refine blk_drewN ?_ _ | refine blk_drew ?_ | refine blk_alloc ?_ _)); exact BK122.out) hb)
                          have n8_ := Aside0.mk (below_step (by repeat (first | (with_reducible first | exact HB.out | apply below_alloc | apply pw_below_drewN | apply below_drew1 | refine below_set ?_ GE101.out | refine below_set ?_ GE122.out) | exact HB.out)) hb)
                          clear HO_6
                          clear HO_10
                          clear HO_123001
                          clear HO147
                          clear HO151
                          clear BK101
                          clear BK122
                          clear HB
                          have HO_6 := n0_
                          have HO_10 := n1_
                          have HO_123001 := n2_
                          have HO147 := n3_
                          have HO151 := n4_
                          have HO154 := n5_
                          have BK101 := n6_
                          have BK122 := n7_
                          have HB := n8_
                          clear n0_ n1_ n2_ n3_ n4_ n5_ n6_ n7_ n8_
                          (try clear hb)
                          (try clear hb2)
                          (try clear hk)
                          (try clear hi)
                          (try clear ho0)
                          refine hK.out _ _ ⟨(blk_cell BK101.out 0).trans rfl, (blk_cell BK101.out 1).trans rfl⟩ (fun hHeld => ?_)
                          clear hK K
                          refine norm_ (a' := ?_) ?_ ?_
                          rotate_left
                          · show Act.put _ (some 99) _ = _
                            simp only [Act.put, List.setIfInBounds_toArray, List.set_cons_zero, List.set_cons_succ, i64_w, i32_w]
                            rfl
                          refine pure_ (i := 5) (N := some 94) (v := ?_) (a' := ?_) #[true, true, true, true, true, true, false, false, false, false] rfl rfl (any_of HT_.out (by kernel_rfl)) (fun _ _ _ h => h) (Or.inl ⟨by rfl, ?_⟩) ?_ ?_
                          rotate_left
                          · intro w'
                            go_simp
                            with_reducible rfl
                          rotate_left
                          · simp only [Act.put, List.setIfInBounds_toArray, List.set_cons_zero, List.set_cons_succ, i64_w, i32_w]
                            rfl
                          refine pure_ (i := 6) (N := some 100) (v := ?_) (a' := ?_) #[true, true, true, true, true, true, true, false, false, false] rfl rfl (any_of HT_.out (by kernel_rfl)) (fun _ _ _ h => h) (Or.inl ⟨by rfl, ?_⟩) ?_ ?_
                          rotate_left
                          · intro w'
                            go_simp
                            with_reducible rfl
                          rotate_left
                          · simp only [Act.put, List.setIfInBounds_toArray, List.set_cons_zero, List.set_cons_succ, i64_w, i32_w]
                            rfl
                          refine pure_ (i := 7) (N := some 101) (v := ?_) (a' := ?_) #[true, true, true, true, true, true, true, true, false, false] rfl rfl (any_of HT_.out (by kernel_rfl)) (fun _ _ _ h => h) (Or.inl ⟨by rfl, ?_⟩) ?_ ?_
                          rotate_left
                          · intro w'
                            go_simp
                            with_reducible rfl
                          rotate_left
                          · simp only [Act.put, List.setIfInBounds_toArray, List.set_cons_zero, List.set_cons_succ, i64_w, i32_w]
                            rfl
                          refine pure_ (i := 8) (N := some 15) (v := ?_) (a' := ?_) #[true, true, true, true, true, true, true, true, true, false] rfl rfl (any_of HT_.out (by kernel_rfl)) (fun _ _ _ h => h) (Or.inl ⟨by rfl, ?_⟩) ?_ ?_
                          rotate_left
                          · intro w'
                            go_simp
                            with_reducible rfl
                          rotate_left
                          · simp only [Act.put, List.setIfInBounds_toArray, List.set_cons_zero, List.set_cons_succ, i64_w, i32_w]
                            rfl
                          refine pure_ (i := 9) (N := some 16) (v := ?_) (a' := ?_) #[true, true, true, true, true, true, true, true, true, true] rfl rfl (any_of HT_.out (by kernel_rfl)) (fun _ _ _ h => h) (Or.inl ⟨by rfl, ?_⟩) ?_ ?_
                          rotate_left
                          · intro w'
                            go_simp
                            with_reducible rfl
                          rotate_left
                          · simp only [Act.put, List.setIfInBounds_toArray, List.set_cons_zero, List.set_cons_succ, i64_w, i32_w]
                            rfl
                          refine done_ (done_of HT_.out (by kernel_rfl)) ?_
                          go_upto_region 32 with (fail)
                          go_cut [110] (fun v110 wc => ∃ (kq : Nat) (x110_81 : Bool), v110 = .bool x110_81 ∧ Aside0 (laws_FnExactRankedFeatures.j2 kq t143 t142 x110_81 = some r) ∧ Aside0 (kq ≤ kj58) ∧ Aside0 (Kd.R (Kd.int .i64) 2 wc w.heap.size (fun k_ => some k_ ≠ ((.slice Ao32 t140.length co32) : Value).ownBlock) (.slice Ao75 t123.length co75) t143) ∧ Aside0 (Kd.R (Kd.int .i64) 2 wc w.heap.size (fun k_ => some k_ ≠ ((.slice Ao75 t123.length co75) : Value).ownBlock) (.slice Ao32 t140.length co32) t140) ∧ Aside0 (wc.heap[gb101]? = some (.cells #[.string a1_0, (.slice A1_1 l1_1.length c1_1)] 24 (0, 0))) ∧ Aside0 (wc.heap[gb122]? = some (.cells #[.string t118, (.slice Ao32 t140.length co32)] 28 (0, 0))) ∧ Aside0 (Below w.heap.size w wc))
                          case first =>
                            have H := HC82.out
                            clear HC82
                            replace H := Option.bind_eq_some_iff.mp H
                            obtain ⟨t156, A890, H⟩ := H
                            replace H : (if t156 = true then (laws_FnExactRankedFeatures.j2 kj58 t143 t142 (t155 != t114)) else (laws_FnExactRankedFeatures.j2 kj58 t143 t142 true)) = some r := H
                            have A89 := Aside0.mk A890
                            clear A890
                            by_cases c90 : t156 = true
                            · subst c90
                              have H1 : (laws_FnExactRankedFeatures.j2 kj58 t143 t142 (t155 != t114)) = some r := by rw [if_pos rfl] at H; exact H
                              clear H
                              have H := H1
                              clear H1
                              have H' := Aside0.mk H
                              clear H
                              obtain ⟨Ao91, co91, eo91⟩ := Kd.R_slice HO154.out
                              subst eo91
                              obtain ⟨Ao92, co92, eo92⟩ := Kd.R_slice HO_6.out
                              subst eo92
                              go_wp2_with (first | ((with_reducible refine gate_callee (f := 31) rfl ?_); refine goesL_ (some 104) rfl rfl Try.func31 (by kernel_rfl) rfl #[.slice Ao91 t152.length co91, .slice Ao92 t111.length co92] rfl (by (try simp only [List.map_toArray, List.map_cons, List.map_nil]); first | done | rfl | (simp only [List.length_drop, List.length_take]; rfl)) ?_; (with_reducible refine (laws_eqInt64S.calls kj58 _ _ t152 _ _ t111 true _ ?side1 ?side2 ?side3 ?side4 A89.out).mono ?_); (case side1 => repeat (first | exact (Kd.R_reads' HO154.out).2.2 | (with_reducible refine Kd.C_alloc ?_ _) | (with_reducible refine Kd.C_drewN ?_ _) | (with_reducible refine Kd.C_drew ?_))); (case side2 => exact (Kd.R_reads' HO154.out).2.1); (case side3 => repeat (first | exact (Kd.R_reads' HO_6.out).2.2 | (with_reducible refine Kd.C_alloc ?_ _) | (with_reducible refine Kd.C_drewN ?_ _) | (with_reducible refine Kd.C_drew ?_))); (case side4 => exact (Kd.R_reads' HO_6.out).2.1); rintro e w' ⟨rfl, ⟨nd, rfl⟩⟩; refine ⟨_, rfl, ?_⟩; (try (rw [drewN_self w88]; generalize hq_ : World.drewN w88 _ = w88; have n0_ : Aside0 (Kd.S k28 28 w88 w.heap.size (fun k_ => ((((((True ∧ some k_ ≠ (.slice Ao92 t111.length co92 : Value).ownBlock) ∧ some k_ ≠ (.slice Ao75 t123.length co75 : Value).ownBlock) ∧ some k_ ≠ (.slice Ao32 t140.length co32 : Value).ownBlock) ∧ k_ ≠ gb122) ∧ some k_ ≠ (.slice Ao87 t149.length co87 : Value).ownBlock) ∧ some k_ ≠ (.slice Ao91 t152.length co91 : Value).ownBlock)) (.slice Ao86 t145.length co86) t145) := ⟨by rw [← hq_]; exact (by (with_reducible repeat (first | apply Kd.S_alloc | apply Kd.S_drewN | apply Kd.S_drew)); exact HO147.out)⟩; have n1_ : Aside0 (Kd.R (Kd.int .i64) 2 w88 w.heap.size (fun k_ => ((((True ∧ some k_ ≠ (.slice Ao92 t111.length co92 : Value).ownBlock) ∧ some k_ ≠ (.slice Ao75 t123.length co75 : Value).ownBlock) ∧ some k_ ≠ (.slice Ao32 t140.length co32 : Value).ownBlock) ∧ some k_ ≠ (.slice Ao91 t152.length co91 : Value).ownBlock)) (.slice Ao87 t149.length co87) t149) := ⟨by rw [← hq_]; exact (by (with_reducible repeat (first | apply Kd.R_alloc | apply Kd.R_drewN | apply Kd.R_drew)); exact HO151.out)⟩; have n2_ : Aside0 (Kd.R (Kd.int .i64) 2 w88 w.heap.size (fun k_ => ((((True ∧ some k_ ≠ (.slice Ao92 t111.length co92 : Value).ownBlock) ∧ some k_ ≠ (.slice Ao75 t123.length co75 : Value).ownBlock) ∧ some k_ ≠ (.slice Ao32 t140.length co32 : Value).ownBlock) ∧ some k_ ≠ (.slice Ao87 t149.length co87 : Value).ownBlock)) (.slice Ao91 t152.length co91) t152) := ⟨by rw [← hq_]; exact (by (with_reducible repeat (first | apply Kd.R_alloc | apply Kd.R_drewN | apply Kd.R_drew)); exact HO154.out)⟩; have n3_ : Aside0 (Kd.R (Kd.int .i64) 2 w88 w.heap.size (fun k_ => (((some k_ ≠ (.slice Ao92 t111.length co92 : Value).ownBlock ∧ some k_ ≠ (.slice Ao32 t140.length co32 : Value).ownBlock) ∧ some k_ ≠ (.slice Ao87 t149.length co87 : Value).ownBlock) ∧ some k_ ≠ (.slice Ao91 t152.length co91 : Value).ownBlock)) (.slice Ao75 t123.length co75) t143) := ⟨by rw [← hq_]; exact (by (with_reducible repeat (first | apply Kd.R_alloc | apply Kd.R_drewN | apply Kd.R_drew)); exact HO_10.out)⟩; have n4_ : Aside0 (Kd.R (Kd.int .i64) 2 w88 w.heap.size (fun k_ => (((some k_ ≠ (.slice Ao92 t111.length co92 : Value).ownBlock ∧ some k_ ≠ (.slice Ao75 t123.length co75 : Value).ownBlock) ∧ some k_ ≠ (.slice Ao87 t149.length co87 : Value).ownBlock) ∧ some k_ ≠ (.slice Ao91 t152.length co91 : Value).ownBlock)) (.slice Ao32 t140.length co32) t140) := ⟨by rw [← hq_]; exact (by (with_reducible repeat (first | apply Kd.R_alloc | apply Kd.R_drewN | apply Kd.R_drew)); exact HO_123001.out)⟩; have n5_ : Aside0 (Kd.R (Kd.int .i64) 2 w88 w.heap.size (fun k_ => (((some k_ ≠ (.slice Ao75 t123.length co75 : Value).ownBlock ∧ some k_ ≠ (.slice Ao32 t140.length co32 : Value).ownBlock) ∧ some k_ ≠ (.slice Ao87 t149.length co87 : Value).ownBlock) ∧ some k_ ≠ (.slice Ao91 t152.length co91 : Value).ownBlock)) (.slice Ao92 t111.length co92) t111) := ⟨by rw [← hq_]; exact (by (with_reducible repeat (first | apply Kd.R_alloc | apply Kd.R_drewN | apply Kd.R_drew)); exact HO_6.out)⟩; have n6_ : Aside0 (w88.heap[gb101]? = some (.cells #[.string a1_0, .slice A1_1 l1_1.length c1_1] 24 (0, 0))) := ⟨by rw [← hq_]; exact (by (with_reducible repeat (first | refine blk_drewN ?_ _ | refine blk_drew ?_ | refine blk_alloc ?_ _)); exact BK101.out)⟩; have n7_ : Aside0 (w88.heap[gb122]? = some (.cells #[.string t118, .slice Ao32 t140.length co32] 28 (0, 0))) := ⟨by rw [← hq_]; exact (by (with_reducible repeat (first | refine blk_drewN ?_ _ | refine blk_drew ?_ | refine blk_alloc ?_ _)); exact BK122.out)⟩; have n8_ : Aside0 (Below w.heap.size w w88) := ⟨by rw [← hq_]; exact (by repeat (first | (with_reducible first | exact HB.out | apply below_alloc | apply pw_below_drewN | apply below_drew1 | refine below_set ?_ GE101.out | refine below_set ?_ GE122.out) | exact HB.out))⟩; clear HO147 HO151 HO154 HO_10 HO_123001 HO_6 BK101 BK122 HB hq_; have HO147 := n0_; have HO151 := n1_; have HO154 := n2_; have HO_10 := n3_; have HO_123001 := n4_; have HO_6 := n5_; have BK101 := n6_; have BK122 := n7_; have HB := n8_; clear n0_ n1_ n2_ n3_ n4_ n5_ n6_ n7_ n8_))))
                              go_meet
                              case rel => exact ⟨_, ((t155 != t114)), (by first | rfl | (simp; done) | (simp [*]; done)), H', ⟨by have := HJ18.out; have := HJ58.out; first | omega | exact Nat.le_refl _⟩, ⟨by (try simp only [hl123001_58]); (with_reducible repeat (first | apply Kd.R_alloc | apply Kd.R_drewN | apply Kd.R_drew)); exact Kd.R_mono HO_10.out (fun _ hk => hk.1.1.2)⟩, ⟨by (try simp only [hl123001_58]); (with_reducible repeat (first | apply Kd.R_alloc | apply Kd.R_drewN | apply Kd.R_drew)); exact Kd.R_mono HO_123001.out (fun _ hk => hk.1.1.2)⟩, ⟨by (try simp only [hl123001_58]); (with_reducible repeat (first | refine blk_drewN ?_ _ | refine blk_drew ?_ | refine blk_alloc ?_ _)); exact BK101.out⟩, ⟨by (try simp only [hl123001_58]); (with_reducible repeat (first | refine blk_drewN ?_ _ | refine blk_drew ?_ | refine blk_alloc ?_ _)); exact BK122.out⟩, ⟨by repeat (first | (with_reducible first | exact HB.out | apply below_alloc | apply pw_below_drewN | apply below_drew1 | refine below_set ?_ GE101.out | refine below_set ?_ GE122.out) | exact HB.out)⟩⟩
                            · replace c90 := Bool.eq_false_iff.mpr c90
                              subst c90
                              have H1 : (laws_FnExactRankedFeatures.j2 kj58 t143 t142 true) = some r := by rw [if_neg (show ¬ (false = true) by decide)] at H; exact H
                              clear H
                              have H := H1
                              clear H1
                              have H' := Aside0.mk H
                              clear H
                              obtain ⟨Ao93, co93, eo93⟩ := Kd.R_slice HO154.out
                              subst eo93
                              obtain ⟨Ao94, co94, eo94⟩ := Kd.R_slice HO_6.out
                              subst eo94
                              go_wp2_with (first | ((with_reducible refine gate_callee (f := 31) rfl ?_); refine goesL_ (some 104) rfl rfl Try.func31 (by kernel_rfl) rfl #[.slice Ao93 t152.length co93, .slice Ao94 t111.length co94] rfl (by (try simp only [List.map_toArray, List.map_cons, List.map_nil]); first | done | rfl | (simp only [List.length_drop, List.length_take]; rfl)) ?_; (with_reducible refine (laws_eqInt64S.calls kj58 _ _ t152 _ _ t111 false _ ?side1 ?side2 ?side3 ?side4 A89.out).mono ?_); (case side1 => repeat (first | exact (Kd.R_reads' HO154.out).2.2 | (with_reducible refine Kd.C_alloc ?_ _) | (with_reducible refine Kd.C_drewN ?_ _) | (with_reducible refine Kd.C_drew ?_))); (case side2 => exact (Kd.R_reads' HO154.out).2.1); (case side3 => repeat (first | exact (Kd.R_reads' HO_6.out).2.2 | (with_reducible refine Kd.C_alloc ?_ _) | (with_reducible refine Kd.C_drewN ?_ _) | (with_reducible refine Kd.C_drew ?_))); (case side4 => exact (Kd.R_reads' HO_6.out).2.1); rintro e w' ⟨rfl, ⟨nd, rfl⟩⟩; refine ⟨_, rfl, ?_⟩; (try (rw [drewN_self w88]; generalize hq_ : World.drewN w88 _ = w88; have n0_ : Aside0 (Kd.S k28 28 w88 w.heap.size (fun k_ => ((((((True ∧ some k_ ≠ (.slice Ao94 t111.length co94 : Value).ownBlock) ∧ some k_ ≠ (.slice Ao75 t123.length co75 : Value).ownBlock) ∧ some k_ ≠ (.slice Ao32 t140.length co32 : Value).ownBlock) ∧ k_ ≠ gb122) ∧ some k_ ≠ (.slice Ao87 t149.length co87 : Value).ownBlock) ∧ some k_ ≠ (.slice Ao93 t152.length co93 : Value).ownBlock)) (.slice Ao86 t145.length co86) t145) := ⟨by rw [← hq_]; exact (by (with_reducible repeat (first | apply Kd.S_alloc | apply Kd.S_drewN | apply Kd.S_drew)); exact HO147.out)⟩; have n1_ : Aside0 (Kd.R (Kd.int .i64) 2 w88 w.heap.size (fun k_ => ((((True ∧ some k_ ≠ (.slice Ao94 t111.length co94 : Value).ownBlock) ∧ some k_ ≠ (.slice Ao75 t123.length co75 : Value).ownBlock) ∧ some k_ ≠ (.slice Ao32 t140.length co32 : Value).ownBlock) ∧ some k_ ≠ (.slice Ao93 t152.length co93 : Value).ownBlock)) (.slice Ao87 t149.length co87) t149) := ⟨by rw [← hq_]; exact (by (with_reducible repeat (first | apply Kd.R_alloc | apply Kd.R_drewN | apply Kd.R_drew)); exact HO151.out)⟩; have n2_ : Aside0 (Kd.R (Kd.int .i64) 2 w88 w.heap.size (fun k_ => ((((True ∧ some k_ ≠ (.slice Ao94 t111.length co94 : Value).ownBlock) ∧ some k_ ≠ (.slice Ao75 t123.length co75 : Value).ownBlock) ∧ some k_ ≠ (.slice Ao32 t140.length co32 : Value).ownBlock) ∧ some k_ ≠ (.slice Ao87 t149.length co87 : Value).ownBlock)) (.slice Ao93 t152.length co93) t152) := ⟨by rw [← hq_]; exact (by (with_reducible repeat (first | apply Kd.R_alloc | apply Kd.R_drewN | apply Kd.R_drew)); exact HO154.out)⟩; have n3_ : Aside0 (Kd.R (Kd.int .i64) 2 w88 w.heap.size (fun k_ => (((some k_ ≠ (.slice Ao94 t111.length co94 : Value).ownBlock ∧ some k_ ≠ (.slice Ao32 t140.length co32 : Value).ownBlock) ∧ some k_ ≠ (.slice Ao87 t149.length co87 : Value).ownBlock) ∧ some k_ ≠ (.slice Ao93 t152.length co93 : Value).ownBlock)) (.slice Ao75 t123.length co75) t143) := ⟨by rw [← hq_]; exact (by (with_reducible repeat (first | apply Kd.R_alloc | apply Kd.R_drewN | apply Kd.R_drew)); exact HO_10.out)⟩; have n4_ : Aside0 (Kd.R (Kd.int .i64) 2 w88 w.heap.size (fun k_ => (((some k_ ≠ (.slice Ao94 t111.length co94 : Value).ownBlock ∧ some k_ ≠ (.slice Ao75 t123.length co75 : Value).ownBlock) ∧ some k_ ≠ (.slice Ao87 t149.length co87 : Value).ownBlock) ∧ some k_ ≠ (.slice Ao93 t152.length co93 : Value).ownBlock)) (.slice Ao32 t140.length co32) t140) := ⟨by rw [← hq_]; exact (by (with_reducible repeat (first | apply Kd.R_alloc | apply Kd.R_drewN | apply Kd.R_drew)); exact HO_123001.out)⟩; have n5_ : Aside0 (Kd.R (Kd.int .i64) 2 w88 w.heap.size (fun k_ => (((some k_ ≠ (.slice Ao75 t123.length co75 : Value).ownBlock ∧ some k_ ≠ (.slice Ao32 t140.length co32 : Value).ownBlock) ∧ some k_ ≠ (.slice Ao87 t149.length co87 : Value).ownBlock) ∧ some k_ ≠ (.slice Ao93 t152.length co93 : Value).ownBlock)) (.slice Ao94 t111.length co94) t111) := ⟨by rw [← hq_]; exact (by (with_reducible repeat (first | apply Kd.R_alloc | apply Kd.R_drewN | apply Kd.R_drew)); exact HO_6.out)⟩; have n6_ : Aside0 (w88.heap[gb101]? = some (.cells #[.string a1_0, .slice A1_1 l1_1.length c1_1] 24 (0, 0))) := ⟨by rw [← hq_]; exact (by (with_reducible repeat (first | refine blk_drewN ?_ _ | refine blk_drew ?_ | refine blk_alloc ?_ _)); exact BK101.out)⟩; have n7_ : Aside0 (w88.heap[gb122]? = some (.cells #[.string t118, .slice Ao32 t140.length co32] 28 (0, 0))) := ⟨by rw [← hq_]; exact (by (with_reducible repeat (first | refine blk_drewN ?_ _ | refine blk_drew ?_ | refine blk_alloc ?_ _)); exact BK122.out)⟩; have n8_ : Aside0 (Below w.heap.size w w88) := ⟨by rw [← hq_]; exact (by repeat (first | (with_reducible first | exact HB.out | apply below_alloc | apply pw_below_drewN | apply below_drew1 | refine below_set ?_ GE101.out | refine below_set ?_ GE122.out) | exact HB.out))⟩; clear HO147 HO151 HO154 HO_10 HO_123001 HO_6 BK101 BK122 HB hq_; have HO147 := n0_; have HO151 := n1_; have HO154 := n2_; have HO_10 := n3_; have HO_123001 := n4_; have HO_6 := n5_; have BK101 := n6_; have BK122 := n7_; have HB := n8_; clear n0_ n1_ n2_ n3_ n4_ n5_ n6_ n7_ n8_))))
                              go_meet
                              case rel => exact ⟨_, (true), (by first | rfl | (simp; done) | (simp [*]; done)), H', ⟨by have := HJ18.out; have := HJ58.out; first | omega | exact Nat.le_refl _⟩, ⟨by (try simp only [hl123001_58]); (with_reducible repeat (first | apply Kd.R_alloc | apply Kd.R_drewN | apply Kd.R_drew)); exact Kd.R_mono HO_10.out (fun _ hk => hk.1.1.2)⟩, ⟨by (try simp only [hl123001_58]); (with_reducible repeat (first | apply Kd.R_alloc | apply Kd.R_drewN | apply Kd.R_drew)); exact Kd.R_mono HO_123001.out (fun _ hk => hk.1.1.2)⟩, ⟨by (try simp only [hl123001_58]); (with_reducible repeat (first | refine blk_drewN ?_ _ | refine blk_drew ?_ | refine blk_alloc ?_ _)); exact BK101.out⟩, ⟨by (try simp only [hl123001_58]); (with_reducible repeat (first | refine blk_drewN ?_ _ | refine blk_drew ?_ | refine blk_alloc ?_ _)); exact BK122.out⟩, ⟨by repeat (first | (with_reducible first | exact HB.out | apply below_alloc | apply pw_below_drewN | apply below_drew1 | refine below_set ?_ GE101.out | refine below_set ?_ GE122.out) | exact HB.out)⟩⟩
                          case rest =>
                            clear HC82
                            try clear c1
                            try clear c2
                            try clear p2
                            try clear c3
                            try clear c4
                            try clear c5
                            try clear c6
                            try clear c7
                            try clear c7b0
                            try clear c7b1
                            try clear c7b2
                            try clear c9
                            try clear c10
                            try clear c12
                            try clear c12b0
                            try clear c12b1
                            try clear c12b2
                            try clear c14
                            try clear c16
                            try clear c17
                            try clear c19
                            try clear c21
                            try clear c26
                            try clear c30
                            try clear c31
                            try clear c34
                            try clear c36
                            try clear c40
                            try clear c41
                            try clear c44
                            try clear c45
                            try clear c46
                            try clear c48
                            try clear c56
                            try clear c61
                            try clear c64
                            try clear c64b0
                            try clear c64b1
                            try clear c64b2
                            try clear c66
                            try clear c71
                            try clear c77
                            try clear c77b0
                            try clear c77b1
                            try clear c77b2
                            try clear c78
                            try clear c78b0
                            try clear c78b1
                            try clear c90
                            try clear hcz10_0
                            try clear hcz10_1
                            try clear hcz27_0
                            try clear hcz27_1
                            try clear hcz31_0
                            try clear hcz31_1
                            try clear hcz62_0
                            try clear hcz62_1
                            try clear hfz10_0
                            try clear hfz10_1
                            try clear hfz27_0
                            try clear hfz27_1
                            try clear hfz31_0
                            try clear hfz31_1
                            try clear hfz62_0
                            try clear hfz62_1
                            try clear p2
                            obtain ⟨kq, x110_81, rfl, HA, HJ81, HO_10, HO_123001, BK101, BK122, HB⟩ := hcut
                            have hl10_81 := (Kd.R_reads' HO_10.out).1
                            rw [hl10_81] at HO_10
                            (try simp only [hl10_81])
                            (try simp only [hl10_81] at BK101)
                            (try simp only [hl10_81] at BK122)
                            (try simp only [hl10_81] at HO_123001)
                            cases kq with
                            | zero => exact absurd HA.out (by simp [laws_FnExactRankedFeatures.j2])
                            | succ kj81 =>
                              have H := HA.out
                              clear HA
                              simp only [laws_FnExactRankedFeatures.j2] at H
                              by_cases c95 : x110_81 = true
                              · subst c95
                                have H1 : (some false) = some r := by rw [if_pos rfl] at H; exact H
                                clear H
                                have H := H1
                                clear H1
                                obtain rfl := Option.some.inj H
                                go_wp2
                                go_ret
                                exact ⟨by first | rfl | (simp [errW_none, errW_some] <;> rfl) | (simp [*, errW_none, errW_some] <;> rfl), by repeat (first | (with_reducible first | exact HB.out | apply below_alloc | apply pw_below_drewN | apply below_drew1 | refine below_set ?_ GE101.out | refine below_set ?_ GE122.out) | exact HB.out)⟩
                              · replace c95 := Bool.eq_false_iff.mpr c95
                                subst c95
                                have H1 : ((laws_heldInt64S.f kj81 t143 1).bind fun t157 => (if t157 < 0 then (some false) else (if t157 = t142 then (some true) else (some false)))) = some r := by rw [if_neg (show ¬ (false = true) by decide)] at H; exact H
                                clear H
                                have H := H1
                                clear H1
                                replace H := Option.bind_eq_some_iff.mp H
                                obtain ⟨t157, A960, H⟩ := H
                                replace H : (if t157 < 0 then (some false) else (if t157 = t142 then (some true) else (some false))) = some r := H
                                have A96 := Aside0.mk A960
                                clear A960
                                have HC97 := Aside0.mk H
                                clear H
                                go_upto_if 115 with (first | ((with_reducible refine gate_callee (f := 46) rfl ?_); refine goesL_ (some 113) rfl rfl Try.func46 (by kernel_rfl) rfl #[.slice Ao75 t143.length co75, .int .i64 1] rfl (by (try simp only [List.map_toArray, List.map_cons, List.map_nil]); first | done | rfl | (simp only [List.length_drop, List.length_take]; rfl)) ?_; (with_reducible refine (laws_heldInt64S.calls kj81 _ _ t143 1 t157 _ ?side1 ?side2 A96.out).mono ?_); (case side1 => repeat (first | exact (Kd.R_reads' HO_10.out).2.2 | (with_reducible refine Kd.C_alloc ?_ _) | (with_reducible refine Kd.C_drewN ?_ _) | (with_reducible refine Kd.C_drew ?_))); (case side2 => exact (Kd.R_reads' HO_10.out).2.1); rintro e w' ⟨rfl, ⟨nd, rfl⟩⟩; refine ⟨_, rfl, ?_⟩; (try (rw [drewN_self wc]; generalize hq_ : World.drewN wc _ = wc; have n0_ : Aside0 (Kd.R (Kd.int .i64) 2 wc w.heap.size (fun k_ => some k_ ≠ (.slice Ao32 t140.length co32 : Value).ownBlock) (.slice Ao75 t143.length co75) t143) := ⟨by rw [← hq_]; exact (by (with_reducible repeat (first | apply Kd.R_alloc | apply Kd.R_drewN | apply Kd.R_drew)); exact HO_10.out)⟩; have n1_ : Aside0 (Kd.R (Kd.int .i64) 2 wc w.heap.size (fun k_ => some k_ ≠ (.slice Ao75 t143.length co75 : Value).ownBlock) (.slice Ao32 t140.length co32) t140) := ⟨by rw [← hq_]; exact (by (with_reducible repeat (first | apply Kd.R_alloc | apply Kd.R_drewN | apply Kd.R_drew)); exact HO_123001.out)⟩; have n2_ : Aside0 (wc.heap[gb101]? = some (.cells #[.string a1_0, .slice A1_1 l1_1.length c1_1] 24 (0, 0))) := ⟨by rw [← hq_]; exact (by (with_reducible repeat (first | refine blk_drewN ?_ _ | refine blk_drew ?_ | refine blk_alloc ?_ _)); exact BK101.out)⟩; have n3_ : Aside0 (wc.heap[gb122]? = some (.cells #[.string t118, .slice Ao32 t140.length co32] 28 (0, 0))) := ⟨by rw [← hq_]; exact (by (with_reducible repeat (first | refine blk_drewN ?_ _ | refine blk_drew ?_ | refine blk_alloc ?_ _)); exact BK122.out)⟩; have n4_ : Aside0 (Below w.heap.size w wc) := ⟨by rw [← hq_]; exact (by repeat (first | (with_reducible first | exact HB.out | apply below_alloc | apply pw_below_drewN | apply below_drew1 | refine below_set ?_ GE101.out | refine below_set ?_ GE122.out) | exact HB.out))⟩; clear HO_10 HO_123001 BK101 BK122 HB hq_; have HO_10 := n0_; have HO_123001 := n1_; have BK101 := n2_; have BK122 := n3_; have HB := n4_; clear n0_ n1_ n2_ n3_ n4_))))
                                (try simp only [Act.put, List.setIfInBounds_toArray, List.set_cons_zero, List.set_cons_succ])
                                have H := HC97.out
                                clear HC97
                                by_cases c98 : t157 < 0
                                · rw [if_pos c98] at H
                                  have c98b0 : decide (t157 < 0) = true := decide_eq_true c98
                                  clear c98
                                  (first | rw [c98b0] | (simp only [i64_w, i32_w]; rw [c98b0]) | (simp only [c98b2, Bool.not_true, Bool.not_false]) | (simp only [c98b1, Bool.not_true, Bool.not_false]) | (simp only [c98b0, Bool.not_true, Bool.not_false]) | skip)
                                  obtain rfl := Option.some.inj H
                                  go_wp2
                                  go_ret
                                  exact ⟨by first | rfl | (simp [errW_none, errW_some] <;> rfl) | (simp [*, errW_none, errW_some] <;> rfl), by repeat (first | (with_reducible first | exact HB.out | apply below_alloc | apply pw_below_drewN | apply below_drew1 | refine below_set ?_ GE101.out | refine below_set ?_ GE122.out) | exact HB.out)⟩
                                · rw [if_neg c98] at H
                                  have c98b0 : decide (t157 < 0) = false := decide_eq_false c98
                                  clear c98
                                  (first | rw [c98b0] | (simp only [i64_w, i32_w]; rw [c98b0]) | (simp only [c98b2, Bool.not_true, Bool.not_false]) | (simp only [c98b1, Bool.not_true, Bool.not_false]) | (simp only [c98b0, Bool.not_true, Bool.not_false]) | skip)
                                  by_cases c99 : t157 = t142
                                  · rw [if_pos c99] at H
                                    have c99b0 : (t157 == t142) = true := beq_iff_eq.mpr c99
                                    have c99b1 : (t157 != t142) = false := bne_eq_false_iff_eq.mpr c99
                                    clear c99
                                    obtain rfl := Option.some.inj H
                                    go_wp2
                                    go_ret
                                    exact ⟨by first | rfl | (simp [errW_none, errW_some] <;> rfl) | (simp [*, errW_none, errW_some] <;> rfl), by repeat (first | (with_reducible first | exact HB.out | apply below_alloc | apply pw_below_drewN | apply below_drew1 | refine below_set ?_ GE101.out | refine below_set ?_ GE122.out) | exact HB.out)⟩
                                  · rw [if_neg c99] at H
                                    have c99b0 : (t157 == t142) = false := beq_eq_false_iff_ne.mpr c99
                                    have c99b1 : (t157 != t142) = true := bne_iff_ne.mpr c99
                                    obtain rfl := Option.some.inj H
                                    go_wp2
                                    go_ret
                                    exact ⟨by first | rfl | (simp [errW_none, errW_some] <;> rfl) | (simp [*, errW_none, errW_some] <;> rfl), by repeat (first | (with_reducible first | exact HB.out | apply below_alloc | apply pw_below_drewN | apply below_drew1 | refine below_set ?_ GE101.out | refine below_set ?_ GE122.out) | exact HB.out)⟩
                        · rw [if_neg c78] at H
                          have c78b0 : (t144 == t142) = false := beq_eq_false_iff_ne.mpr c78
                          have c78b1 : (t144 != t142) = true := bne_iff_ne.mpr c78
                          obtain rfl := Option.some.inj H
                          go_wp2
                          go_ret
                          exact ⟨by first | rfl | (simp [errW_none, errW_some] <;> rfl) | (simp [*, errW_none, errW_some] <;> rfl), by repeat (first | (with_reducible first | exact HB.out | apply below_alloc | apply pw_below_drewN | apply below_drew1 | refine below_set ?_ GE101.out | refine below_set ?_ GE122.out) | exact HB.out)⟩
              · replace c56 := Bool.eq_false_iff.mpr c56
                subst c56
                have H1 : (some false) = some r := by rw [if_neg (show ¬ (false = true) by decide)] at H; exact H
                clear H
                have H := H1
                clear H1
                obtain rfl := Option.some.inj H
                go_wp2
                go_ret
                exact ⟨by first | rfl | (simp [errW_none, errW_some] <;> rfl) | (simp [*, errW_none, errW_some] <;> rfl), by repeat (first | (with_reducible first | exact HB.out | apply below_alloc | apply pw_below_drewN | apply below_drew1 | refine below_set ?_ GE101.out | refine below_set ?_ GE122.out) | exact HB.out)⟩
            · replace c48 := Bool.eq_false_iff.mpr c48
              subst c48
              have H1 : (some false) = some r := by rw [if_neg (show ¬ (false = true) by decide)] at H; exact H
              clear H
              have H := H1
              clear H1
              obtain rfl := Option.some.inj H
              go_wp2
              go_ret
              exact ⟨by first | rfl | (simp [errW_none, errW_some] <;> rfl) | (simp [*, errW_none, errW_some] <;> rfl), by repeat (first | (with_reducible first | exact HB.out | apply below_alloc | apply pw_below_drewN | apply below_drew1 | refine below_set ?_ GE101.out | refine below_set ?_ GE122.out) | exact HB.out)⟩
end Go.Proofs.Yteafahnopgmgoaa.Q
namespace Go.Proofs.Yteafahnopgmgoaa.Q
open Go.RowKit Go.Proofs.YteafahnopgmgoaaW.PrintWords Go.Proofs.YteafahnopgmgoaaW.PrintLast Go.Proofs.YteafahnopgmgoaaW.PrintMore
attribute [local go_sem] max2_int min2_int max_two min_two max_three min_three max_four min_four
set_option linter.unusedVariables false
set_option linter.unusedSimpArgs false
def laws_FnExactRankedFeatures.Pure : Prop := ∀ (x0 : List (S24)) (x1 : S24), (x0.length ≤ maxLen ∧ ∀ y0 ∈ x0, W24 y0) → W24 x1 → ∃ k, laws_FnExactRankedFeatures.f k x0 x1.f0 x1.f1 = some true
end Go.Proofs.Yteafahnopgmgoaa.Q
namespace Go.Proofs.Yteafahnopgmgoaa.Q
open Go.RowKit Go.Proofs.YteafahnopgmgoaaW.PrintWords Go.Proofs.YteafahnopgmgoaaW.PrintLast Go.Proofs.YteafahnopgmgoaaW.PrintMore
theorem wr64 {x : Int} (h0 : -9223372036854775808 ≤ x) (h1 : x < 9223372036854775808) : wrap64 x = x := by unfold wrap64; omega
theorem wr64s (i : Nat) (h : (i : Int) < 9223372036854775807) : wrap64 ((i : Int) + 1) = ((i + 1 : Nat) : Int) := by rw [wr64 (by omega) (by omega)]; omega
theorem Ev_suc {α : Type} {g : Nat → Option α} {r : α} (h : Ev (fun k => g (k + 1)) r) : Ev g r := by
  obtain ⟨K, hK⟩ := h
  refine ⟨K + 1, fun k hk => ?_⟩
  obtain ⟨m, rfl⟩ : ∃ m, k = m + 1 := ⟨k - 1, by omega⟩
  exact hK m (by omega)
theorem Ev_t {α : Type} {c : Prop} [Decidable c] {f g : Nat → Option α} {r : α} (h : c) (k : Ev f r) : Ev (fun n => if c then f n else g n) r := by
  obtain ⟨K, hK⟩ := k
  exact ⟨K, fun n hn => (if_pos h).trans (hK n hn)⟩
theorem Ev_f {α : Type} {c : Prop} [Decidable c] {f g : Nat → Option α} {r : α} (h : ¬ c) (k : Ev g r) : Ev (fun n => if c then f n else g n) r := by
  obtain ⟨K, hK⟩ := k
  exact ⟨K, fun n hn => (if_neg h).trans (hK n hn)⟩
theorem Ev_b {α β : Type} {g : Nat → Option α} {f : Nat → α → Option β} {a : α} {r : β} (h : Ev g a) (k : Ev (fun n => f n a) r) : Ev (fun n => (g n).bind (fun x => f n x)) r := Ev.bind h k
theorem Ev_s {α β : Type} {a : α} {f : Nat → α → Option β} {r : β} (k : Ev (fun n => f n a) r) : Ev (fun n => (some a).bind (fun x => f n x)) r := k
theorem Ev_n {α : Type} {a r : α} (h : a = r) : Ev (fun _ => some a) r := ⟨0, fun _ _ => by rw [h]⟩
theorem Ev_c {α : Type} {o : Option α} {r : α} (h : o = some r) : Ev (fun _ => o) r := ⟨0, fun _ _ => h⟩
theorem Ev_at {α : Type} {g : Nat → Option α} {r r' : α} (h : Ev g r) (e : r = r') : Ev g r' := e ▸ h
def cut (c s : Int) : Int := if s ≤ c then c - s else -1
theorem cut_pos {c s : Int} (h : s ≤ c) : cut c s = c - s := by unfold cut; rw [if_pos h]
theorem cut_neg {c s : Int} (h : ¬ s ≤ c) : cut c s = -1 := by unfold cut; rw [if_neg h]
theorem set_take' {α : Type} (xs : List α) (i : Nat) (m : α) (h : i < xs.length) : (xs.set i m).take (i + 1) = xs.take i ++ [m] := by
  rw [List.take_succ_eq_append_getElem (by simpa using h)]
  congr 1
  · rw [List.take_set_of_le (Nat.le_refl _)]
  · simp
theorem getD_in {α : Type} (l : List α) (z : α) (i : Nat) (h : i < l.length) : l.getD ((i : Int).toNat) z = l[i] := by simp [List.getD, h]
theorem getD_at {α : Type} (p q : List α) (z x : α) (i : Nat) (h : p.length = i) : (p ++ x :: q).getD ((i : Int).toNat) z = x := by subst h; simp [List.getD]
theorem set_at {α : Type} (p q : List α) (x y : α) (i : Nat) (h : p.length = i) : (p ++ x :: q).set ((i : Int).toNat) y = p ++ y :: q := by subst h; simp
theorem sum_le {α : Type} (f : α → Nat) : ∀ (l : List α) (x : α), x ∈ l → f x ≤ (l.map f).sum
  | a :: l, x, h => by
    rw [List.map_cons, List.sum_cons]
    rcases List.mem_cons.1 h with rfl | h
    · omega
    · have := sum_le f l x h; omega
end Go.Proofs.Yteafahnopgmgoaa.Q
namespace Go.Proofs.Yteafahnopgmgoaa.Q
open Go.RowKit Go.Proofs.YteafahnopgmgoaaW.PrintWords Go.Proofs.YteafahnopgmgoaaW.PrintLast Go.Proofs.YteafahnopgmgoaaW.PrintMore
theorem markText_ev (c : Int) (h0 : 0 ≤ c) (h1 : c ≤ 1000000000000000000) : ∃ t, Ev (fun k => laws_markText.f k c) t := by
  have go : ∀ (d : Nat) (c : Int) (s : ByteArray), 0 ≤ c → c < 10 ^ d → c ≤ 1000000000000000000 → s.size + d ≤ 1000 → ∃ t, Ev (fun k => laws_markText.l0 k c s) t := by
    intro d
    induction d with
    | zero =>
      intro c s h0 h1 h2 h3
      refine ⟨(⟨#[109]⟩ : ByteArray) ++ s, Ev_suc ?_⟩
      simp only [laws_markText.l0]
      refine Ev_f (by simp at h1; omega) (Ev_t (by omega) (Ev_n rfl))
    | succ d ih =>
      intro c s h0 h1 h2 h3
      by_cases hc : c > 0
      · have e1 : (strOfNums [(wrap64 (48 + Int.tmod c 10)) % 256]).size = 1 := rfl
        have e2 : wrap64 (Int.tdiv c 10) = c / 10 := by rw [Int.tdiv_eq_ediv_of_nonneg h0, wr64 (by omega) (by omega)]
        obtain ⟨t, ht⟩ := ih (c / 10) (strOfNums [(wrap64 (48 + Int.tmod c 10)) % 256] ++ s) (by omega) (by rw [Int.pow_succ] at h1; omega) (by omega) (by rw [ByteArray.size_append, e1]; omega)
        refine ⟨t, Ev_suc ?_⟩
        simp only [laws_markText.l0]
        refine Ev_t hc (Ev_s (Ev_t (by rw [e1]; omega) ?_))
        rw [e2]
        exact ht
      · refine ⟨(⟨#[109]⟩ : ByteArray) ++ s, Ev_suc ?_⟩
        simp only [laws_markText.l0]
        refine Ev_f hc (Ev_t (by omega) (Ev_n rfl))
  by_cases hc : c ≤ 0
  · refine ⟨(⟨#[109, 48]⟩ : ByteArray), ?_⟩
    simp only [laws_markText.f]
    exact Ev_t hc (Ev_n rfl)
  · obtain ⟨t, ht⟩ := go 19 c (⟨#[]⟩ : ByteArray) h0 (by omega) h1 (by simp [ByteArray.size])
    refine ⟨t, ?_⟩
    simp only [laws_markText.f]
    exact Ev_f hc ht
end Go.Proofs.Yteafahnopgmgoaa.Q
namespace Go.Proofs.Yteafahnopgmgoaa.Q
open Go.RowKit Go.Proofs.YteafahnopgmgoaaW.PrintWords Go.Proofs.YteafahnopgmgoaaW.PrintLast Go.Proofs.YteafahnopgmgoaaW.PrintMore
set_option linter.unusedVariables false
theorem rdn_at (a b : List Int) (x : Int) (i : Nat) (h : a.length = i) : rd (a ++ x :: b) (i : Int) = x := by unfold rd; exact getD_at a b _ x i h
theorem eqInt64S_ev' (l : List Int) (hl : (l.length : Int) ≤ 1000000000000) : Ev (fun k => laws_eqInt64S.f k l l) true := by
  have go : ∀ (q p : List Int) (i : Nat), p.length = i → (i : Int) + q.length ≤ 1000000000000 → Ev (fun k => laws_eqInt64S.l0 k (p ++ q) (p ++ q) i) true := by
    intro q
    induction q with
    | nil =>
      intro p i q1 q2
      refine Ev_suc ?_
      simp only [laws_eqInt64S.l0]
      exact Ev_f (by simp; omega) (Ev_n rfl)
    | cons x q ih =>
      intro p i q1 q2
      simp only [List.length_cons] at q2
      refine Ev_suc ?_
      simp only [laws_eqInt64S.l0]
      refine Ev_t (by simp; omega) (Ev_t (by omega) (Ev_t (by simp; omega) (Ev_t True.intro ?_)))
      rw [wr64s i (by omega)]
      have := ih (p ++ [x]) (i + 1) (by simp; omega) (by omega)
      rw [List.append_assoc, List.singleton_append] at this
      exact this
  simp only [laws_eqInt64S.f]
  exact Ev_t True.intro (go l [] 0 rfl (by simpa using hl))
theorem mk_Int64 (l : List Int) (c : Int) (h0 : 0 ≤ c) (h1 : c ≤ 10000000000000000) (hl : (l.length : Int) ≤ 1000000000000) : ∃ l', l'.length = l.length ∧ Ev (fun k => laws_markInt64S.f k l c) (c + 1 * l.length, l') ∧ Ev (fun k => laws_heldInt64S.f k l' c) (c + 1 * l.length) := by
  have go : ∀ (q p : List Int) (i : Nat) (c : Int), p.length = i → 0 ≤ c → c + 1 * q.length ≤ 100000000000000000 → (i : Int) + q.length ≤ 1000000000000 → ∃ q', q'.length = q.length ∧ Ev (fun k => laws_markInt64S.l0 k (p ++ q) c i) (c + 1 * q.length, p ++ q') ∧ ∀ r : List Int, r.length = i → Ev (fun k => laws_heldInt64S.l0 k (r ++ q') c i) (c + 1 * q.length) := by
    intro q
    induction q with
    | nil =>
      intro p i c q1 q2 q3 q4
      refine ⟨[], rfl, Ev_suc ?_, fun r hr => Ev_suc ?_⟩
      · simp only [laws_markInt64S.l0]
        exact Ev_f (by simp; omega) (Ev_n (by simp))
      · simp only [laws_heldInt64S.l0]
        exact Ev_f (by simp; omega) (Ev_n (by simp))
    | cons x q ih =>
      intro p i c q1 q2 q3 q4
      simp only [List.length_cons] at q3 q4
      have e0 : wrap64 (c + 1) = c + 1 := (wr64 (by omega) (by omega)).trans (by omega)
      obtain ⟨q', hq, hm, hh⟩ := ih (p ++ [c]) (i + 1) (c + 1) (by simp; omega) (by omega) (by omega) (by omega)
      refine ⟨c :: q', by simp [hq], Ev_suc ?_, fun r hr => Ev_suc ?_⟩
      · simp only [laws_markInt64S.l0, e0, set_at p q _ _ i q1]
        refine Ev_t (by simp; omega) (Ev_t (by omega) ?_)
        rw [wr64s i (by omega)]
        have hm' := hm
        rw [List.append_assoc, List.singleton_append, List.append_assoc, List.singleton_append] at hm'
        exact Ev_at hm' (by simp only [List.length_cons, Prod.mk.injEq, and_true]; omega)
      · simp only [laws_heldInt64S.l0, e0, rdn_at r q' _ i hr]
        refine Ev_t (by simp; omega) (Ev_t (by omega) (Ev_t True.intro ?_))
        rw [wr64s i (by omega)]
        have hh' := hh (r ++ [c]) (by simp; omega)
        rw [List.append_assoc, List.singleton_append] at hh'
        exact Ev_at hh' (by simp only [List.length_cons]; omega)
  obtain ⟨l', e1, e2, e3⟩ := go l [] 0 c rfl h0 (by omega) (by simpa using hl)
  refine ⟨l', e1, ?_, ?_⟩
  · simp only [laws_markInt64S.f]; exact e2
  · simp only [laws_heldInt64S.f]; exact e3 [] rfl
theorem eq_Int64S (l : List Int) (hl : (l.length : Int) ≤ 1048576) : Ev (fun k => laws_eqInt64S.f k l l) true := eqInt64S_ev' l (by omega)
theorem sz_Int64S (l : List Int) (hl : l.length ≤ maxLen) (c : Int) (h0 : 0 ≤ c) (h1 : c ≤ 1048576) : Ev (fun _ => laws_szInt64S.f l c) (cut c (l.length : Nat)) := by
  have hM : maxLen = 9223372036854775807 := by decide
  rw [hM] at hl
  simp only [laws_szInt64S.f]
  rw [wr64 (x := c - (l.length : Int)) (by omega) (by omega)]
  by_cases g : c - (l.length : Int) < 0
  · rw [cut_neg (by omega)]; exact Ev_t g (Ev_n rfl)
  · rw [cut_pos (by omega)]; exact Ev_f g (Ev_n rfl)
theorem to_Int64S (l : List Int) (hl : (l.length : Int) ≤ 1048576) : Ev (fun k => laws_toInt64S.f k l) l := by
  have go : ∀ (d i : Nat) (xs : List Int), i + d = l.length → xs.length = l.length → xs.take i = l.take i → Ev (fun k => laws_toInt64S.l0 k l xs i) l := by
    intro d
    induction d with
    | zero =>
      intro i xs h1 h2 h3
      refine Ev_suc ?_
      simp only [laws_toInt64S.l0]
      refine Ev_f (by omega) (Ev_n ?_)
      rw [List.take_of_length_le (by omega), List.take_of_length_le (by omega)] at h3
      exact h3
    | succ d ih =>
      intro i xs h1 h2 h3
      refine Ev_suc ?_
      simp only [laws_toInt64S.l0]
      have hi : i < l.length := by omega
      have hr : rd l (i : Int) = l[i] := by unfold rd; exact getD_in l _ i hi
      refine Ev_t (by omega) (Ev_t (by omega) (Ev_t (by omega) ?_))
      rw [wr64s i (by omega), hr, Int.toNat_natCast]
      refine ih (i + 1) _ (by omega) (by simp [h2]) ?_
      rw [set_take' xs i _ (by omega), h3, List.take_succ_eq_append_getElem hi]
  simp only [laws_toInt64S.f]
  refine Ev_t (by omega) (Ev_t (by simpa using (by omega : l.length ≤ 35184372088832)) ?_)
  exact go l.length 0 _ (by omega) (by simp) (by simp)
end Go.Proofs.Yteafahnopgmgoaa.Q
namespace Go.Proofs.Yteafahnopgmgoaa.Q
open Go.RowKit Go.Proofs.YteafahnopgmgoaaW.PrintWords Go.Proofs.YteafahnopgmgoaaW.PrintLast Go.Proofs.YteafahnopgmgoaaW.PrintMore
set_option linter.unusedVariables false
set_option linter.unusedSimpArgs false
theorem rdl_Feature (l : List S24) (i : Nat) (h : i < l.length) : rd_T24 l (i : Int) = l[i] := by unfold rd_T24; exact getD_in l _ i h
theorem rdi_Feature (l : List S28) (i : Nat) (h : i < l.length) : rd_T28 l (i : Int) = l[i] := by unfold rd_T28; exact getD_in l _ i h
def Z_Feature (x : S24) : Nat := x.f0.size + x.f1.length
def ZS_Feature (l : List S24) : Nat := l.length + (l.map Z_Feature).sum
theorem ZS_in_Feature (l : List S24) : l.length ≤ ZS_Feature l ∧ ∀ y ∈ l, Z_Feature y ≤ ZS_Feature l := ⟨by unfold ZS_Feature; omega, fun y hy => by have := sum_le Z_Feature l y hy; unfold ZS_Feature; omega⟩
theorem sz_Feature (x : S24) (hw : W24 x) (c : Int) (h0 : 0 ≤ c) (h1 : c ≤ 1048576) : Ev (fun k => laws_szFeature.f (x.f0) (x.f1) c) (cut c (Z_Feature x)) := by
  have hM : maxLen = 9223372036854775807 := by decide
  unfold W24 at hw
  obtain ⟨w0, w1⟩ := hw
  simp only [laws_szFeature.f]
  have b0 : x.f0.size ≤ maxLen := w0
  rw [hM] at b0
  have e0 : wrap64 (c - ((x.f0.size : Nat) : Int)) = c - ((x.f0.size : Nat) : Int) := wr64 (by omega) (by omega)
  simp only [e0]
  by_cases g0 : c - ((x.f0.size : Nat) : Int) < 0
  · rw [cut_neg (by unfold Z_Feature; omega)]; exact Ev_t g0 (Ev_n rfl)
  refine Ev_f g0 ?_
  obtain ⟨c0, hc0⟩ : ∃ z_, z_ = c - ((x.f0.size : Nat) : Int) := ⟨_, rfl⟩
  simp only [← hc0]
  refine Ev_b (sz_Int64S x.f1 (by first | exact w1.1 | exact w1) c0 (by omega) (by omega)) ?_
  by_cases g1 : ((x.f1.length : Nat) : Int) ≤ c0
  case neg => rw [cut_neg g1, cut_neg (by unfold Z_Feature; omega)]; exact Ev_t (by decide) (Ev_n rfl)
  rw [cut_pos g1]
  refine Ev_f (by omega) ?_
  obtain ⟨c1, hc1⟩ : ∃ z_, z_ = c0 - ((x.f1.length : Nat) : Int) := ⟨_, rfl⟩
  simp only [← hc1]
  rw [cut_pos (by unfold Z_Feature; omega)]
  exact Ev_n (by unfold Z_Feature; omega)
theorem szS_Feature (l : List S24) (hl : l.length ≤ maxLen) (hw : ∀ y ∈ l, W24 y) (c : Int) (h0 : 0 ≤ c) (h1 : c ≤ 1048576) : Ev (fun k => laws_szFeatureS.f k l c) (cut c (ZS_Feature l)) := by
  have hM : maxLen = 9223372036854775807 := by decide
  rw [hM] at hl
  have go : ∀ (d i : Nat) (c : Int), i + d = l.length → l.length ≤ 1048576 → 0 ≤ c → c ≤ 1048576 → Ev (fun k => laws_szFeatureS.l0 k l c i) (cut c (((l.drop i).map Z_Feature).sum : Nat)) := by
    intro d
    induction d with
    | zero =>
      intro i c q1 q2 q3 q4
      refine Ev_suc ?_
      simp only [laws_szFeatureS.l0]
      rw [List.drop_of_length_le (by omega), cut_pos (by simpa using q3)]
      exact Ev_f (by omega) (Ev_n (by simp))
    | succ d ih =>
      intro i c q1 q2 q3 q4
      refine Ev_suc ?_
      simp only [laws_szFeatureS.l0]
      refine Ev_t (by omega) (Ev_t (by omega) ?_)
      rw [rdl_Feature l i (by omega)]
      refine Ev_b (sz_Feature l[i] (hw _ (List.getElem_mem _)) c q3 q4) ?_
      rw [List.drop_eq_getElem_cons (show i < l.length by omega), List.map_cons, List.sum_cons]
      by_cases g : ((Z_Feature l[i] : Nat) : Int) ≤ c
      case neg => rw [cut_neg g, cut_neg (by omega)]; exact Ev_t (by decide) (Ev_n rfl)
      rw [cut_pos g]
      refine Ev_f (by omega) ?_
      rw [wr64s i (by omega)]
      refine Ev_at (ih (i + 1) _ (by omega) q2 (by omega) (by omega)) ?_
      unfold cut
      split <;> split <;> omega
  simp only [laws_szFeatureS.f]
  rw [wr64 (x := c - (l.length : Int)) (by omega) (by omega)]
  by_cases g : c - (l.length : Int) < 0
  · rw [cut_neg (by unfold ZS_Feature; omega)]
    exact Ev_t g (Ev_n rfl)
  · refine Ev_f g (Ev_at (go l.length 0 _ (by omega) (by omega) (by omega) (by omega)) ?_)
    rw [List.drop_zero]
    unfold cut ZS_Feature
    split <;> split <;> omega
def conv_Feature (x : S24) : S28 := ⟨x.f0, x.f1⟩
def B_Feature (x : S24) : Prop := ((x.f1.length : Int) ≤ 1048576)
theorem B_of_Feature (x : S24) (h : (Z_Feature x : Int) ≤ 1048576) : B_Feature x := by
  unfold Z_Feature at h
  unfold B_Feature
  exact by omega
theorem to_Feature (x : S24) (hb : B_Feature x) : Ev (fun k => laws_toFeature.f k (x.f0) (x.f1)) ((conv_Feature x).f0, (conv_Feature x).f1) := by
  unfold B_Feature at hb
  simp only [laws_toFeature.f]
  refine Ev_b (to_Int64S x.f1 hb) ?_
  exact Ev_n rfl
theorem toS_Feature (l : List S24) (hl : (l.length : Int) ≤ 1048576) (hb : ∀ y ∈ l, B_Feature y) : Ev (fun k => laws_toFeatureS.f k l) (l.map conv_Feature) := by
  have go : ∀ (d i : Nat) (xs : List S28), i + d = l.length → xs.length = l.length → xs.take i = (l.map conv_Feature).take i → Ev (fun k => laws_toFeatureS.l0 k l xs i) (l.map conv_Feature) := by
    intro d
    induction d with
    | zero =>
      intro i xs q1 q2 q3
      refine Ev_suc ?_
      simp only [laws_toFeatureS.l0]
      rw [List.take_of_length_le (by omega), List.take_of_length_le (by simp; omega)] at q3
      rw [q3]
      exact Ev_f (by omega) (Ev_n rfl)
    | succ d ih =>
      intro i xs q1 q2 q3
      refine Ev_suc ?_
      simp only [laws_toFeatureS.l0]
      refine Ev_t (by omega) (Ev_t (by omega) ?_)
      rw [rdl_Feature l i (by omega)]
      refine Ev_b (to_Feature l[i] (hb _ (List.getElem_mem _))) ?_
      refine Ev_t (by omega) ?_
      rw [wr64s i (by omega), Int.toNat_natCast]
      refine ih (i + 1) _ (by omega) (by rw [List.length_set]; exact q2) ?_
      rw [set_take' _ _ _ (by omega), q3, List.take_succ_eq_append_getElem (by simp; omega)]
      simp [conv_Feature]
  simp only [laws_toFeatureS.f]
  refine Ev_t (by omega) (Ev_t (by omega) ?_)
  exact go l.length 0 _ (by omega) (by simp) (by simp)
def E_Feature (x : S28) : Prop := ((x.f1.length : Int) ≤ 1048576)
theorem E_of_Feature (x : S24) (hb : B_Feature x) : E_Feature (conv_Feature x) := by
  unfold B_Feature at hb
  unfold E_Feature
  exact by unfold conv_Feature; simpa using hb
theorem eq_Feature (x : S28) (he : E_Feature x) : Ev (fun k => laws_eqFeature.f k (x.f0) (x.f1) (x.f0) (x.f1)) true := by
  unfold E_Feature at he
  simp only [laws_eqFeature.f, if_true]
  refine Ev_b (eq_Int64S x.f1 he) ?_
  simp only [if_true]
  exact Ev_n rfl
theorem eqS_Feature (m : List S28) (hl : (m.length : Int) ≤ 1048576) (he : ∀ y ∈ m, E_Feature y) : Ev (fun k => laws_eqFeatureS.f k m m) true := by
  have go : ∀ (d i : Nat), i + d = m.length → Ev (fun k => laws_eqFeatureS.l0 k m m i) true := by
    intro d
    induction d with
    | zero =>
      intro i q1
      refine Ev_suc ?_
      simp only [laws_eqFeatureS.l0]
      exact Ev_f (by omega) (Ev_n rfl)
    | succ d ih =>
      intro i q1
      refine Ev_suc ?_
      simp only [laws_eqFeatureS.l0]
      refine Ev_t (by omega) (Ev_t (by omega) (Ev_t (by omega) ?_))
      rw [rdi_Feature m i (by omega)]
      refine Ev_b (eq_Feature m[i] (he _ (List.getElem_mem _))) ?_
      rw [wr64s i (by omega)]
      exact Ev_t rfl (ih (i + 1) (by omega))
  simp only [laws_eqFeatureS.f]
  exact Ev_t (by first | trivial | rfl) (go m.length 0 (by omega))
end Go.Proofs.Yteafahnopgmgoaa.Q
namespace Go.Proofs.Yteafahnopgmgoaa.Q
open Go.RowKit Go.Proofs.YteafahnopgmgoaaW.PrintWords Go.Proofs.YteafahnopgmgoaaW.PrintLast Go.Proofs.YteafahnopgmgoaaW.PrintMore
theorem ite_and (b c : Bool) : (if b = true then some c else some false) = some (b && c) := by cases b <;> rfl
theorem in_f (a b c : Int) : spec_l00In.f a b c = some (decide (b ≤ a) && decide (a ≤ c)) := by unfold spec_l00In.f; by_cases h : a ≥ b <;> simp [h]
theorem within_f (a b c : Int) : impl_within.f a b c = some (decide (b ≤ a) && decide (a ≤ c)) := by unfold impl_within.f; by_cases h : a ≥ b <;> simp [h]
theorem w64 {x : Int} (h0 : -9223372036854775808 ≤ x) (h1 : x < 9223372036854775808) : wrap64 x = x := by unfold wrap64; omega
end Go.Proofs.Yteafahnopgmgoaa.Q
namespace Go.Proofs.Yteafahnopgmgoaa.Q
open Go.RowKit Go.Proofs.YteafahnopgmgoaaW.PrintWords Go.Proofs.YteafahnopgmgoaaW.PrintLast Go.Proofs.YteafahnopgmgoaaW.PrintMore
theorem toList_len (x : ByteArray) : x.toList.length = x.size := by
  rw [Go.ByteArray.toList_eq x, Array.length_toList]; rfl
theorem name_round (k : Nat) (x : ByteArray) (i : Int) : spec_l01Name.l0 k x i = impl_IsName.l0 k x i := by
  induction k generalizing i with
  | zero => rfl
  | succ k ih =>
    simp only [spec_l01Name.l0, impl_IsName.l0, ih, spec_l01Small.f, spec_l01Digit.f]
    by_cases h1 : i < (x.size : Int)
    · rw [if_pos h1, if_pos h1]
      by_cases h2 : 0 ≤ i
      · rw [if_pos h2, if_pos h2]
        generalize bt x i = c
        by_cases h3 : c < 97
        · rw [if_pos h3, if_neg (by omega)]
          by_cases h4 : c < 48
          · rw [if_pos h4, if_neg (by omega)]; simp
          · rw [if_neg h4, if_pos (by omega)]
            by_cases h5 : c > 57
            · rw [if_pos h5]; simp [show ¬ c ≤ 57 by omega]
            · rw [if_neg h5]; simp [show c ≤ 57 by omega]
        · rw [if_neg h3, if_pos (show c ≥ 97 by omega)]
          by_cases h4 : c > 122
          · simp [h4, show ¬ c < 48 by omega, show c > 57 by omega, show ¬ c ≤ 122 by omega, show ¬ c ≤ 57 by omega]
          · rw [if_neg h4]; simp [show c ≤ 122 by omega]
      · rw [if_neg h2, if_neg h2]
    · rw [if_neg h1, if_neg h1]
theorem name_same (k : Nat) (x : ByteArray) : spec_l01Name.f k x = impl_IsName.f k x := by
  have hj : ∀ b, spec_l01Name.j0 k x b = impl_IsName.j0 k x b := by
    intro b
    cases k with
    | zero => rfl
    | succ k => simp only [spec_l01Name.j0, impl_IsName.j0, name_round]
  unfold spec_l01Name.f impl_IsName.f spec_l01Small.f
  simp only [hj]
  by_cases h0 : x.toList = []
  · have : x.size = 0 := by rw [← toList_len, h0]; rfl
    rw [if_pos h0, if_pos (by omega)]
  · have : x.size ≠ 0 := by
      intro e; apply h0; apply List.eq_nil_of_length_eq_zero; rw [toList_len, e]
    rw [if_neg h0, if_neg (show ¬ (x.size : Int) < 1 by omega)]
    by_cases h1 : (x.size : Int) > 10
    · rw [if_pos h1, if_pos h1]
    · rw [if_neg h1, if_neg h1, if_pos (show 0 < (x.size : Int) by omega), if_pos (show 0 < (x.size : Int) by omega)]
      generalize bt x 0 = c
      by_cases h3 : c < 97
      · rw [if_pos h3, if_neg (show ¬ c ≥ 97 by omega)]; rfl
      · rw [if_neg h3, if_pos (show c ≥ 97 by omega)]
        simp only [Option.bind_some]
        congr 1
        by_cases h4 : c > 122
        · simp [h4, show ¬ c ≤ 122 by omega]
        · simp [h4, show c ≤ 122 by omega]
theorem name_ev (x : ByteArray) : ∃ b, ∀ k, 12 < k → impl_IsName.f k x = some b := by
  have go : ∀ (d : Nat) (i : Int), 0 ≤ i → i + d = x.size → (x.size : Int) ≤ 10 → ∃ b, ∀ k, d < k → impl_IsName.l0 k x i = some b := by
    intro d
    induction d with
    | zero =>
      intro i h0 h1 _
      refine ⟨true, fun k hk => ?_⟩
      obtain ⟨k, rfl⟩ : ∃ m, k = m + 1 := ⟨k - 1, by omega⟩
      simp only [impl_IsName.l0]
      rw [if_neg (by omega)]
    | succ d ih =>
      intro i h0 h1 h2
      obtain ⟨b, hb⟩ := ih (i + 1) (by omega) (by omega) h2
      by_cases h3 : bt x i < 97
      · by_cases h4 : bt x i < 48
        · refine ⟨false, fun k hk => ?_⟩
          obtain ⟨k, rfl⟩ : ∃ m, k = m + 1 := ⟨k - 1, by omega⟩
          simp only [impl_IsName.l0]
          rw [if_pos (by omega), if_pos h0, if_pos h3, if_pos h4]
        · by_cases h5 : bt x i > 57
          · refine ⟨false, fun k hk => ?_⟩
            obtain ⟨k, rfl⟩ : ∃ m, k = m + 1 := ⟨k - 1, by omega⟩
            simp only [impl_IsName.l0]
            rw [if_pos (by omega), if_pos h0, if_pos h3, if_neg h4, if_pos h5]
          · refine ⟨b, fun k hk => ?_⟩
            obtain ⟨k, rfl⟩ : ∃ m, k = m + 1 := ⟨k - 1, by omega⟩
            simp only [impl_IsName.l0]
            rw [if_pos (by omega), if_pos h0, if_pos h3, if_neg h4, if_neg h5, w64 (by omega) (by omega), hb k (by omega)]
      · by_cases h4 : bt x i > 122
        · refine ⟨false, fun k hk => ?_⟩
          obtain ⟨k, rfl⟩ : ∃ m, k = m + 1 := ⟨k - 1, by omega⟩
          simp only [impl_IsName.l0]
          rw [if_pos (by omega), if_pos h0, if_neg h3, if_pos h4, if_neg (by omega), if_pos (by omega)]
        · refine ⟨b, fun k hk => ?_⟩
          obtain ⟨k, rfl⟩ : ∃ m, k = m + 1 := ⟨k - 1, by omega⟩
          simp only [impl_IsName.l0]
          rw [if_pos (by omega), if_pos h0, if_neg h3, if_neg h4, w64 (by omega) (by omega), hb k (by omega)]
  have hj : ∀ (b : Bool), (b = false → (x.size : Int) ≤ 10) → ∃ c, ∀ k, 12 < k → impl_IsName.j0 k x b = some c := by
    intro b hs
    cases b with
    | true =>
      refine ⟨false, fun k hk => ?_⟩
      obtain ⟨k, rfl⟩ : ∃ m, k = m + 1 := ⟨k - 1, by omega⟩
      simp only [impl_IsName.j0, if_true]
    | false =>
      obtain ⟨c, hc⟩ := go x.size 0 (by omega) (by omega) (hs rfl)
      have := hs rfl
      refine ⟨c, fun k hk => ?_⟩
      obtain ⟨k, rfl⟩ : ∃ m, k = m + 1 := ⟨k - 1, by omega⟩
      simp only [impl_IsName.j0]
      rw [if_neg (by decide), hc k (by omega)]
  unfold impl_IsName.f
  by_cases h1 : (x.size : Int) < 1
  · simp only [if_pos h1]; exact hj true (by intro h; cases h)
  · simp only [if_neg h1]
    by_cases h2 : (x.size : Int) > 10
    · simp only [if_pos h2]; exact hj true (by intro h; cases h)
    · simp only [if_neg h2, if_pos (show 0 < (x.size : Int) by omega)]
      by_cases h3 : bt x 0 < 97
      · simp only [if_pos h3]; exact hj true (by intro h; cases h)
      · simp only [if_neg h3]; exact hj _ (fun _ => by omega)
end Go.Proofs.Yteafahnopgmgoaa.Q
namespace Go.Proofs.Yteafahnopgmgoaa.Q
open Go.RowKit Go.Proofs.YteafahnopgmgoaaW.PrintWords Go.Proofs.YteafahnopgmgoaaW.PrintLast Go.Proofs.YteafahnopgmgoaaW.PrintMore
def okB (x : Int) : Bool := decide (0 ≤ x) && decide (x ≤ 255)
theorem rd_nat (l : List Int) (i : Nat) (h : i < l.length) : rd l (i : Int) = l[i] := by unfold rd; simp [List.getD, h]
theorem one_loop (x : S28) (hl : x.f1.length < 4611686018427387904) : ∀ (d i : Nat), i + d = x.f1.length → ∀ k, d < k → spec_l26One.l0 k [x] i = some ((x.f1.drop i).all okB) := by
  intro d
  have hrd : rd_T28 [x] 0 = x := rfl
  induction d with
  | zero =>
    intro i h k hk
    obtain ⟨k, rfl⟩ : ∃ m, k = m + 1 := ⟨k - 1, by omega⟩
    simp only [spec_l26One.l0, hrd]
    rw [if_pos (by simp), if_neg (by omega), List.drop_of_length_le (by omega)]
    rfl
  | succ d ih =>
    intro i h k hk
    obtain ⟨k, rfl⟩ : ∃ m, k = m + 1 := ⟨k - 1, by omega⟩
    simp only [spec_l26One.l0, hrd]
    rw [if_pos (by simp), if_pos (by omega), if_pos (by omega), rd_nat _ _ (by omega), in_f]
    simp only [Option.bind_some]
    rw [w64 (by omega) (by omega), show (i : Int) + 1 = ((i + 1 : Nat) : Int) by omega, ih (i + 1) (by omega) k (by omega), List.drop_eq_getElem_cons (show i < x.f1.length by omega), List.all_cons, ite_and]
    rfl
theorem index_loop (l : List Int) (hl : l.length < 4611686018427387904) : ∀ (d i : Nat), i + d = l.length → ∃ r, decide (r ≥ 0) = !((l.drop i).all okB) ∧ ∀ k, d < k → slices_IndexFunc_int64_int64.l0 k l (l.length : Int) i = some r := by
  intro d
  induction d with
  | zero =>
    intro i h
    refine ⟨-1, by rw [List.drop_of_length_le (by omega)]; rfl, fun k hk => ?_⟩
    obtain ⟨k, rfl⟩ : ∃ m, k = m + 1 := ⟨k - 1, by omega⟩
    simp only [slices_IndexFunc_int64_int64.l0]
    rw [if_neg (by omega)]
  | succ d ih =>
    intro i h
    cases hc : okB l[i]
    · refine ⟨i, by rw [List.drop_eq_getElem_cons (show i < l.length by omega), List.all_cons, hc]; simp, fun k hk => ?_⟩
      obtain ⟨k, rfl⟩ : ∃ m, k = m + 1 := ⟨k - 1, by omega⟩
      simp only [slices_IndexFunc_int64_int64.l0, impl_ValidFeature_1.f]
      rw [if_pos (by omega), if_pos (by omega), if_pos (by omega), rd_nat _ _ (by omega), within_f]
      simp only [Option.bind_some]
      rw [show (decide (0 ≤ l[i]) && decide (l[i] ≤ 255)) = false from hc]
      simp
    · obtain ⟨r, hr, hk0⟩ := ih (i + 1) (by omega)
      refine ⟨r, by rw [List.drop_eq_getElem_cons (show i < l.length by omega), List.all_cons, hc, hr]; simp, fun k hk => ?_⟩
      obtain ⟨k, rfl⟩ : ∃ m, k = m + 1 := ⟨k - 1, by omega⟩
      simp only [slices_IndexFunc_int64_int64.l0, impl_ValidFeature_1.f]
      rw [if_pos (by omega), if_pos (by omega), if_pos (by omega), rd_nat _ _ (by omega), within_f]
      simp only [Option.bind_some]
      rw [show (decide (0 ≤ l[i]) && decide (l[i] ≤ 255)) = true from hc]
      simp only [Bool.not_true, Bool.false_eq_true, if_false]
      rw [w64 (by omega) (by omega), show (i : Int) + 1 = ((i + 1 : Nat) : Int) by omega, hk0 k (by omega)]
theorem valid_ev (a : ByteArray) (l : List Int) : ∃ b, (b = true → l.length = 6 ∧ l.all okB = true) ∧ ∀ k, 20 < k → spec_l26One.f k [(⟨a, l⟩ : S28)] = some b ∧ impl_ValidFeature.f k a l = some b := by
  obtain ⟨b, hb⟩ := name_ev a
  have hrd : rd_T28 [(⟨a, l⟩ : S28)] 0 = ⟨a, l⟩ := rfl
  cases b with
  | false =>
    refine ⟨false, fun h => (by cases h), fun k hk => ⟨?_, ?_⟩⟩
    · unfold spec_l26One.f
      rw [if_pos (by simp), hrd, name_same, hb k (by omega)]
      obtain ⟨k, rfl⟩ : ∃ m, k = m + 1 := ⟨k - 1, by omega⟩
      simp [spec_l26One.j0]
    · unfold impl_ValidFeature.f
      rw [hb k (by omega)]
      simp
  | true =>
    by_cases h6 : l.length = 6
    · obtain ⟨r, hr, hk0⟩ := index_loop l (by omega) 6 0 (by omega)
      rw [List.drop_zero] at hr
      refine ⟨l.all okB, fun h => ⟨h6, h⟩, fun k hk => ⟨?_, ?_⟩⟩
      · unfold spec_l26One.f
        rw [if_pos (by simp), hrd, name_same, hb k (by omega)]
        obtain ⟨k, rfl⟩ : ∃ m, k = m + 1 := ⟨k - 1, by omega⟩
        have := one_loop ⟨a, l⟩ (by simp only []; omega) 6 0 (by simp only []; omega) k (by omega)
        simp only [List.drop_zero] at this
        simp [spec_l26One.j0, h6]
        simpa using this
      · unfold impl_ValidFeature.f slices_ContainsFunc_int64_int64.f slices_IndexFunc_int64_int64.f
        rw [hb k (by omega)]
        have := hk0 k (by omega)
        simp only [Option.bind_some, if_true]
        rw [if_pos (by omega), show ((0 : Int)) = ((0 : Nat) : Int) from rfl, this]
        simp only [Option.bind_some]
        rw [show decide (r ≥ ((0 : Nat) : Int)) = decide (r ≥ 0) from rfl, hr]
        simp
    · refine ⟨false, fun h => (by cases h), fun k hk => ⟨?_, ?_⟩⟩
      · unfold spec_l26One.f
        rw [if_pos (by simp), hrd, name_same, hb k (by omega)]
        obtain ⟨k, rfl⟩ : ∃ m, k = m + 1 := ⟨k - 1, by omega⟩
        simp [spec_l26One.j0, show ¬ (l.length : Int) = 6 by omega]
      · unfold impl_ValidFeature.f
        rw [hb k (by omega)]
        simp only [Option.bind_some, if_true]
        rw [if_neg (by omega)]
end Go.Proofs.Yteafahnopgmgoaa.Q
namespace Go.Proofs.Yteafahnopgmgoaa.Q
open Go.RowKit Go.Proofs.YteafahnopgmgoaaW.PrintWords Go.Proofs.YteafahnopgmgoaaW.PrintLast Go.Proofs.YteafahnopgmgoaaW.PrintMore
theorem rd_F (l : List S28) (i : Nat) (h : i < l.length) : rd_T28 l (i : Int) = l[i] := by unfold rd_T28; simp [List.getD, h]
theorem validS_ev (m : List S28) (hl : (m.length : Int) ≤ 1048576) : ∃ b, (b = true → m.length ≤ 16 ∧ ∀ y ∈ m, y.f1.length = 6 ∧ y.f1.all okB = true) ∧ ∀ k, 2000000 < k → spec_l26Ok.f k m = some b ∧ impl_ValidFeatures.f k m = some b := by
  have go : ∀ (d i : Nat), i + d = m.length → ∃ b, (b = true → m.length ≤ 16 ∧ ∀ y ∈ m.drop i, y.f1.length = 6 ∧ y.f1.all okB = true) ∧ ∀ k, d + 30 < k → spec_l26Ok.l0 k m i = some b ∧ impl_ValidFeatures.l0 k m m (m.length : Int) i = some b := by
    intro d
    induction d with
    | zero =>
      intro i h1
      refine ⟨decide ((m.length : Int) ≤ 16), fun h => ⟨by have := of_decide_eq_true h; omega, by rw [List.drop_of_length_le (by omega)]; simp⟩, fun k hk => ?_⟩
      obtain ⟨k, rfl⟩ : ∃ m, k = m + 1 := ⟨k - 1, by omega⟩
      simp only [spec_l26Ok.l0, impl_ValidFeatures.l0]
      rw [if_neg (by omega), if_neg (by omega)]
      exact ⟨rfl, rfl⟩
    | succ d ih =>
      intro i h1
      obtain ⟨b, hb, hv⟩ := valid_ev m[i].f0 m[i].f1
      have e1 : ∀ k, 20 < k → spec_l26One.f k [m[i]] = some b := fun k h => (hv k h).1
      have e2 : ∀ k, 20 < k → impl_ValidFeature.f k m[i].f0 m[i].f1 = some b := fun k h => (hv k h).2
      obtain ⟨c, hc, hk0⟩ := ih (i + 1) (by omega)
      have g1 : ((i : Int) < (m.length : Int)) = True := eq_true (by omega)
      have g2 : (0 ≤ (i : Int)) = True := eq_true (by omega)
      have g3 := rd_F m i (by omega)
      have g4 : wrap64 ((i : Int) + 1) = ((i + 1 : Nat) : Int) := by rw [w64 (by omega) (by omega)]; omega
      have gf : (false = true) = False := by simp
      cases b with
      | false =>
        refine ⟨false, fun h => (by cases h), fun k hk => ?_⟩
        obtain ⟨k, rfl⟩ : ∃ m, k = m + 1 := ⟨k - 1, by omega⟩
        simp only [spec_l26Ok.l0, impl_ValidFeatures.l0, g1, g2, g3, if_true, e1 k (by omega), e2 k (by omega), Option.bind_some, gf, if_false]
        exact ⟨trivial, trivial⟩
      | true =>
        have hcons : c = true → m.length ≤ 16 ∧ ∀ y ∈ m.drop i, y.f1.length = 6 ∧ y.f1.all okB = true := by
          intro h
          obtain ⟨c1, c2⟩ := hc h
          refine ⟨c1, ?_⟩
          rw [List.drop_eq_getElem_cons (show i < m.length by omega)]
          intro y hy
          rcases List.mem_cons.1 hy with rfl | hy
          · exact hb rfl
          · exact c2 y hy
        by_cases hi : i = 0
        · have g5 : ((i : Int) > 0) = False := eq_false (by omega)
          refine ⟨c, hcons, fun k hk => ?_⟩
          obtain ⟨k, rfl⟩ : ∃ m, k = m + 1 := ⟨k - 1, by omega⟩
          obtain ⟨f1, f2⟩ := hk0 k (by omega)
          simp only [spec_l26Ok.l0, impl_ValidFeatures.l0, g1, g2, g3, if_true, e1 k (by omega), e2 k (by omega), Option.bind_some, g5, if_false, g4]
          exact ⟨f1, f2⟩
        · have g5 : ((i : Int) > 0) = True := eq_true (by omega)
          have g6 : wrap64 ((i : Int) - 1) = (i : Int) - 1 := w64 (by omega) (by omega)
          have g7 : (0 ≤ (i : Int) - 1) = True := eq_true (by omega)
          have g8 : ((i : Int) - 1 < (m.length : Int)) = True := eq_true (by omega)
          cases hlt : Op.bytesLess ((rd_T28 m ((i : Int) - 1)).f0).toList (m[i].f0).toList with
          | true =>
            refine ⟨c, hcons, fun k hk => ?_⟩
            obtain ⟨k, rfl⟩ : ∃ m, k = m + 1 := ⟨k - 1, by omega⟩
            obtain ⟨f1, f2⟩ := hk0 k (by omega)
            simp only [spec_l26Ok.l0, impl_ValidFeatures.l0, g1, g2, g3, if_true, e1 k (by omega), e2 k (by omega), Option.bind_some, g5, g6, g7, g8, hlt, g4]
            exact ⟨f1, f2⟩
          | false =>
            refine ⟨false, fun h => (by cases h), fun k hk => ?_⟩
            obtain ⟨k, rfl⟩ : ∃ m, k = m + 1 := ⟨k - 1, by omega⟩
            simp only [spec_l26Ok.l0, impl_ValidFeatures.l0, g1, g2, g3, if_true, e1 k (by omega), e2 k (by omega), Option.bind_some, g5, g6, g7, g8, hlt, gf, if_false]
            exact ⟨trivial, trivial⟩
  obtain ⟨b, hb, hk0⟩ := go m.length 0 (by omega)
  exact ⟨b, by simpa using hb, fun k hk => hk0 k (by omega)⟩
end Go.Proofs.Yteafahnopgmgoaa.Q
namespace Go.Proofs.Yteafahnopgmgoaa.Q
open Go.RowKit Go.Proofs.YteafahnopgmgoaaW.PrintWords Go.Proofs.YteafahnopgmgoaaW.PrintLast Go.Proofs.YteafahnopgmgoaaW.PrintMore
set_option linter.unusedVariables false
abbrev Fe := S28
def vF (x : Fe) : Prop := x.f1.length = 6 ∧ x.f1.all okB = true
theorem Ev_all {α : Type} {g : Nat → Option α} {r : α} {n : Nat} (h : ∀ k, n < k → g k = some r) : Ev g r := ⟨n + 1, fun k hk => h k (by omega)⟩
theorem rdF_one (x : Fe) : rd_T28 [x] 0 = x := rfl
theorem rdF_in (l : List Fe) (i : Nat) (h : i < l.length) : rd_T28 l (i : Int) = l[i] := by unfold rd_T28; exact getD_in l _ i h
theorem away2_ev (x y : Fe) (hx : vF x) (hy : vF y) : ∃ v : Int, 0 ≤ v ∧ v ≤ 1530 ∧ Ev (fun k => spec_l26Away.f k [x] [y]) v ∧ Ev (fun k => impl_featureDistance.f k x.f0 x.f1 y.f0 y.f1) v := by
  obtain ⟨a, l⟩ := x
  obtain ⟨b, m⟩ := y
  obtain ⟨hl, h1⟩ := hx
  obtain ⟨hm, h2⟩ := hy
  simp only [] at hl h1 hm h2
  have go : ∀ (d i : Nat) (c : Int), i + d = 6 → 0 ≤ c → c ≤ 255 * (i : Int) → ∃ v, 0 ≤ v ∧ v ≤ 1530 ∧ Ev (fun k => spec_l26Away.l0 k [(⟨a, l⟩ : Fe)] [(⟨b, m⟩ : Fe)] c i) v ∧ Ev (fun k => impl_featureDistance.l0 k c l (l.length : Int) i b m) v := by
    intro d
    induction d with
    | zero =>
      intro i c h c0 c1
      refine ⟨c, c0, by omega, Ev_suc ?_, Ev_suc ?_⟩
      · simp only [spec_l26Away.l0]; exact Ev_f (by omega) (Ev_n rfl)
      · simp only [impl_featureDistance.l0]; exact Ev_f (by omega) (Ev_n rfl)
    | succ d ih =>
      intro i c h c0 c1
      have g1 : 0 ≤ l[i] ∧ l[i] ≤ 255 := by simpa [okB] using (List.all_eq_true.mp h1) l[i] (List.getElem_mem _)
      have g2 : 0 ≤ m[i] ∧ m[i] ≤ 255 := by simpa [okB] using (List.all_eq_true.mp h2) m[i] (List.getElem_mem _)
      have e1 : spec_l00Max.f (wrap64 (l[i] - m[i])) (wrap64 (m[i] - l[i])) = some (if l[i] ≤ m[i] then m[i] - l[i] else l[i] - m[i]) := by
        unfold spec_l00Max.f
        rw [w64 (x := l[i] - m[i]) (by omega) (by omega), w64 (x := m[i] - l[i]) (by omega) (by omega)]
        split <;> split <;> first | rfl | (congr 1; omega) | omega
      have e2 : impl_absolute.f (wrap64 (l[i] - m[i])) = some (if l[i] ≤ m[i] then m[i] - l[i] else l[i] - m[i]) := by
        unfold impl_absolute.f
        rw [w64 (x := l[i] - m[i]) (by omega) (by omega), w64 (by omega) (by omega)]
        unfold mx
        split <;> split <;> first | rfl | (congr 1; omega) | omega
      obtain ⟨t, ht⟩ : ∃ t, t = (if l[i] ≤ m[i] then m[i] - l[i] else l[i] - m[i]) := ⟨_, rfl⟩
      have t0 : 0 ≤ t ∧ t ≤ 255 := by rw [ht]; split <;> omega
      rw [← ht] at e1 e2
      obtain ⟨v, v0, v1, q1, q2⟩ := ih (i + 1) (c + t) (by omega) (by omega) (by omega)
      refine ⟨v, v0, v1, Ev_suc ?_, Ev_suc ?_⟩
      · simp only [spec_l26Away.l0, rdF_one]
        refine Ev_t (by omega) (Ev_t (by simp) (Ev_t (by omega) (Ev_t (by omega) (Ev_t (by simp) (Ev_t (by omega) ?_)))))
        rw [rd_nat l i (by omega), rd_nat m i (by omega)]
        refine Ev_b (Ev_c e1) ?_
        rw [wr64 (x := c + t) (by omega) (by omega), wr64s i (by omega)]
        exact q1
      · simp only [impl_featureDistance.l0]
        refine Ev_t (by omega) (Ev_t (by omega) (Ev_t (by omega) (Ev_t (by omega) ?_)))
        rw [rd_nat l i (by omega), rd_nat m i (by omega)]
        refine Ev_b (Ev_c e2) ?_
        rw [wr64 (x := c + t) (by omega) (by omega), wr64s i (by omega)]
        exact q2
  obtain ⟨v, v0, v1, q1, q2⟩ := go 6 0 0 rfl (by omega) (by omega)
  refine ⟨v, v0, v1, ?_, ?_⟩
  · simp only [spec_l26Away.f]; exact q1
  · simp only [impl_featureDistance.f]; exact q2
theorem dist_fun (m : List Fe) (f : Fe) (hm : ∀ y ∈ m, vF y) (hf : vF f) : ∃ D : Nat → Int, ∀ i (h : i < m.length), 0 ≤ D i ∧ D i ≤ 1530 ∧ Ev (fun k => spec_l26Away.f k [m[i]] [f]) (D i) ∧ Ev (fun k => impl_featureDistance.f k m[i].f0 m[i].f1 f.f0 f.f1) (D i) := by
  have : ∀ i, ∃ v : Int, ∀ h : i < m.length, 0 ≤ v ∧ v ≤ 1530 ∧ Ev (fun k => spec_l26Away.f k [m[i]] [f]) v ∧ Ev (fun k => impl_featureDistance.f k m[i].f0 m[i].f1 f.f0 f.f1) v := by
    intro i
    by_cases h : i < m.length
    · obtain ⟨v, hv⟩ := away2_ev m[i] f (hm _ (List.getElem_mem _)) hf
      exact ⟨v, fun _ => hv⟩
    · exact ⟨0, fun h' => absurd h' h⟩
  exact Classical.axiomOfChoice this
def insr (D : Nat → Int) (x : Nat) : List Nat → List Nat
  | [] => [x]
  | y :: r => if D x < D y then y :: insr D x r else x :: y :: r
theorem insr_mem (D : Nat → Int) (x z : Nat) : ∀ r, z ∈ insr D x r ↔ z = x ∨ z ∈ r
  | [] => by simp [insr]
  | y :: r => by
    unfold insr
    split
    · simp only [List.mem_cons, insr_mem D x z r]
      constructor
      · rintro (h | h | h) <;> simp [h]
      · rintro (h | h | h) <;> simp [h]
    · simp only [List.mem_cons]
theorem insr_len (D : Nat → Int) (x : Nat) : ∀ r, (insr D x r).length = r.length + 1
  | [] => rfl
  | y :: r => by
    unfold insr
    split
    · simp [insr_len D x r]
    · simp
def ranks (D : Nat → Int) : Nat → List Nat
  | 0 => []
  | n + 1 => insr D n (ranks D n)
theorem ranks_mem (D : Nat → Int) : ∀ n z, z ∈ ranks D n ↔ z < n
  | 0, z => by simp [ranks]
  | n + 1, z => by rw [ranks, insr_mem, ranks_mem D n z]; omega
theorem ranks_len (D : Nat → Int) : ∀ n, (ranks D n).length = n
  | 0 => rfl
  | n + 1 => by rw [ranks, insr_len, ranks_len D n]
def up (r : List Nat) : List Int := r.reverse.map (fun (i : Nat) => (i : Int))
theorem up_cons (y : Nat) (r : List Nat) : up (y :: r) = up r ++ [(y : Int)] := by simp [up]
theorem up_len (r : List Nat) : (up r).length = r.length := by simp [up]
theorem rd_mid (a b : List Int) (x : Int) (i : Nat) (h : a.length = i) : rd (a ++ x :: b) (i : Int) = x := by unfold rd; exact getD_at a b _ x i h
theorem spec_ins (D : Nat → Int) (n : Nat) (ds : List Int) (hn : ds.length = n) (hsm : n ≤ 1000) (hd : ∀ i, i < n → rd ds (i : Int) = - D i) (x : Nat) (hx : x < n) (R : List Int) : ∀ (r : List Nat) (b : List Int), (∀ z ∈ r, z < n) → r.length + b.length ≤ 2000 →
    Ev (fun k => spec_l14Order.l0 k ds (up (insr D x r) ++ b) ((x + 1 : Nat) : Int)) R → Ev (fun k => spec_l14Order.l1 k ds (up r ++ b) x (r.length : Int)) R := by
  intro r
  have own : ∀ l : List Int, l.length ≤ 2000 → spec_l00Own.f l = some l := fun l hl => by
    unfold spec_l00Own.f
    simp only [Option.bind_some]
    rw [if_pos (by simp; omega)]; rfl
  induction r with
  | nil =>
    intro b _ hl h
    refine Ev_suc ?_
    simp only [spec_l14Order.l1, up, List.reverse_nil, List.map_nil, List.nil_append]
    refine Ev_f (by simp) (Ev_t (by simp) (Ev_t (by simp) ?_))
    simp only [List.length_nil] at hl
    refine Ev_b (Ev_c (own _ (by simp))) ?_
    refine Ev_t (by simp) (Ev_s (Ev_s (Ev_t (by simp; omega) ?_)))
    rw [wr64s x (by omega)]
    simpa [up, insr] using h
  | cons y r ih =>
    intro b hz hl h
    have hy : y < n := hz y (List.mem_cons_self ..)
    simp only [List.length_cons] at hl
    have e1 : wrap64 (((r.length + 1 : Nat) : Int) - 1) = (r.length : Int) := by rw [wr64 (by omega) (by omega)]; omega
    have e2 : rd (up (y :: r) ++ b) (r.length : Int) = (y : Int) := by rw [up_cons, List.append_assoc, List.singleton_append]; exact rd_mid _ _ _ _ (up_len r)
    have e3 : (up (y :: r) ++ b).length = r.length + 1 + b.length := by simp [up_len]
    refine Ev_suc ?_
    simp only [spec_l14Order.l1, List.length_cons, e1, e2, hd y hy, hd x hx]
    refine Ev_t (by omega) (Ev_t (by omega) (Ev_t (by rw [e3]; omega) (Ev_t (by omega) (Ev_t (by omega) (Ev_t (by omega) (Ev_t (by omega) ?_))))))
    by_cases c : D x < D y
    · refine Ev_t (by omega) ?_
      rw [up_cons, List.append_assoc, List.singleton_append]
      refine ih ((y : Int) :: b) (fun z h => hz z (List.mem_cons_of_mem _ h)) (by simp; omega) ?_
      rw [insr, if_pos c, up_cons, List.append_assoc, List.singleton_append] at h
      exact h
    · refine Ev_f (by omega) (Ev_t (by omega) (Ev_t (by rw [e3]; omega) ?_))
      have e4 : (up (y :: r) ++ b).take ((r.length + 1 : Nat) : Int).toNat = up (y :: r) := by rw [Int.toNat_natCast]; exact List.take_left' (by simp [up_len])
      have e5 : (up (y :: r) ++ b).drop ((r.length + 1 : Nat) : Int).toNat = b := by rw [Int.toNat_natCast]; exact List.drop_left' (by simp [up_len])
      rw [e4, e5]
      refine Ev_b (Ev_c (own _ (by simp [up_len]; omega))) ?_
      refine Ev_t (by simp [up_len]; omega) (Ev_s (Ev_s (Ev_t (by simp [up_len]; omega) ?_)))
      rw [wr64s x (by omega)]
      rw [insr, if_neg c, up_cons] at h
      exact h
theorem spec_order (D : Nat → Int) (n : Nat) (ds : List Int) (hn : ds.length = n) (hsm : n ≤ 1000) (hd : ∀ i, i < n → rd ds (i : Int) = - D i) : Ev (fun k => spec_l14Order.f k ds) (up (ranks D n)) := by
  have go : ∀ (d i : Nat), i + d = n → Ev (fun k => spec_l14Order.l0 k ds (up (ranks D i)) i) (up (ranks D n)) := by
    intro d
    induction d with
    | zero =>
      intro i h
      refine Ev_suc ?_
      simp only [spec_l14Order.l0]
      obtain rfl : i = n := by omega
      exact Ev_f (by omega) (Ev_n rfl)
    | succ d ih =>
      intro i h
      refine Ev_suc ?_
      simp only [spec_l14Order.l0]
      refine Ev_t (by omega) ?_
      have := spec_ins D n ds hn hsm hd i (by omega) _ (ranks D i) [] (fun z h => by rw [ranks_mem] at h; omega) (by rw [ranks_len]; simp; omega) (by rw [List.append_nil]; exact ih (i + 1) (by omega))
      rw [List.append_nil] at this
      rw [up_len]
      exact this
  simp only [spec_l14Order.f]
  exact go n 0 (by omega)
def rng (a n : Nat) : List Int := (List.range' a (n - a)).map (fun (i : Nat) => (i : Int))
theorem rng_cons (a n : Nat) (h : a < n) : rng a n = (a : Int) :: rng (a + 1) n := by
  unfold rng
  rw [show n - a = (n - (a + 1)) + 1 by omega, List.range'_succ]
  rfl
theorem rng_len (a n : Nat) : (rng a n).length = n - a := by simp [rng]
theorem rng_nil (n : Nat) : rng n n = [] := by simp [rng]
theorem rng_last (n : Nat) : rng 0 (n + 1) = rng 0 n ++ [(n : Int)] := by
  unfold rng
  rw [show n + 1 - 0 = n + 1 by omega, List.range'_1_concat, List.map_append, Nat.sub_zero]
  simp
theorem cmp_ev (m : List Fe) (f : Fe) (D : Nat → Int) (hD : ∀ i (h : i < m.length), 0 ≤ D i ∧ D i ≤ 1530 ∧ Ev (fun k => spec_l26Away.f k [m[i]] [f]) (D i) ∧ Ev (fun k => impl_featureDistance.f k m[i].f0 m[i].f1 f.f0 f.f1) (D i)) (x y : Nat) (hx : x < m.length) (hy : y < m.length) :
    Ev (fun k => impl_RankedFeatures_1.f k x y [m] [f]) (D x - D y) := by
  simp only [impl_RankedFeatures_1.f]
  obtain ⟨x0, x1, _, xe⟩ := hD x hx
  obtain ⟨y0, y1, _, ye⟩ := hD y hy
  have e : rd_L9 [m] 0 = m := rfl
  rw [e, rdF_in m x hx, rdF_in m y hy, rdF_one]
  refine Ev_t (by simp) (Ev_t (by omega) (Ev_t (by omega) (Ev_t (by simp) (Ev_b xe (Ev_t (by omega) (Ev_t (by omega) (Ev_b ye (Ev_n ?_))))))))
  exact wr64 (by omega) (by omega)
theorem impl_ins (m : List Fe) (f : Fe) (D : Nat → Int) (hD : ∀ i (h : i < m.length), 0 ≤ D i ∧ D i ≤ 1530 ∧ Ev (fun k => spec_l26Away.f k [m[i]] [f]) (D i) ∧ Ev (fun k => impl_featureDistance.f k m[i].f0 m[i].f1 f.f0 f.f1) (D i)) (hsm : m.length ≤ 1000) (x : Nat) (hx : x < m.length) (n2 : Int) (R : List Int) : ∀ (r : List Nat) (b : List Int), (∀ z ∈ r, z < m.length) → r.length + b.length ≤ 2000 →
    Ev (fun k => slices_insertionSortCmpFunc_int64.l0 k (up (insr D x r) ++ b) 0 n2 ((x + 1 : Nat) : Int) [m] [f]) R → Ev (fun k => slices_insertionSortCmpFunc_int64.l1 k (up r ++ (x : Int) :: b) 0 n2 x (r.length : Int) [m] [f]) R := by
  intro r
  induction r with
  | nil =>
    intro b _ hl h
    refine Ev_suc ?_
    simp only [slices_insertionSortCmpFunc_int64.l1]
    refine Ev_f (by simp) ?_
    rw [wr64s x (by omega)]
    simpa [up, insr] using h
  | cons y r ih =>
    intro b hz hl h
    have hy : y < m.length := hz y (List.mem_cons_self ..)
    simp only [List.length_cons] at hl
    have e1 : wrap64 (((r.length + 1 : Nat) : Int) - 1) = (r.length : Int) := by rw [wr64 (by omega) (by omega)]; omega
    have e2 : rd (up (y :: r) ++ (x : Int) :: b) (r.length : Int) = (y : Int) := by rw [up_cons, List.append_assoc, List.singleton_append]; exact rd_mid _ _ _ _ (up_len r)
    have e2' : rd (up (y :: r) ++ (x : Int) :: b) ((r.length + 1 : Nat) : Int) = (x : Int) := rd_mid _ _ _ _ (by rw [up_len]; rfl)
    have e3 : (up (y :: r) ++ (x : Int) :: b).length = r.length + 2 + b.length := by simp [up_len]; omega
    refine Ev_suc ?_
    simp only [slices_insertionSortCmpFunc_int64.l1, List.length_cons, e1, e2, e2']
    refine Ev_t (by omega) (Ev_t (by omega) (Ev_t (by rw [e3]; omega) (Ev_t (by omega) (Ev_t (by rw [e3]; omega) (Ev_b (cmp_ev m f D hD x y hx hy) ?_)))))
    by_cases c : D x < D y
    · refine Ev_t (by omega) ?_
      have e6 : ((up (y :: r) ++ (x : Int) :: b).set ((r.length + 1 : Nat) : Int).toNat (y : Int)).set (r.length : Int).toNat (x : Int) = up r ++ (x : Int) :: (y : Int) :: b := by
        rw [set_at (up (y :: r)) b (x : Int) (y : Int) (r.length + 1) (by rw [up_len]; rfl), up_cons, List.append_assoc, List.singleton_append, set_at (up r) _ (y : Int) (x : Int) r.length (up_len r)]
      rw [e6]
      refine ih ((y : Int) :: b) (fun z h => hz z (List.mem_cons_of_mem _ h)) (by simp; omega) ?_
      rw [insr, if_pos c, up_cons, List.append_assoc, List.singleton_append] at h
      exact h
    · refine Ev_f (by omega) ?_
      rw [wr64s x (by omega)]
      rw [insr, if_neg c, up_cons, List.append_assoc, List.singleton_append] at h
      exact h
theorem impl_order (m : List Fe) (f : Fe) (D : Nat → Int) (hD : ∀ i (h : i < m.length), 0 ≤ D i ∧ D i ≤ 1530 ∧ Ev (fun k => spec_l26Away.f k [m[i]] [f]) (D i) ∧ Ev (fun k => impl_featureDistance.f k m[i].f0 m[i].f1 f.f0 f.f1) (D i)) (hsm : m.length ≤ 16) :
    Ev (fun k => slices_SortStableFunc_int64_int64.f k (rng 0 m.length) [m] [f]) (up (ranks D m.length)) := by
  have go : ∀ (d i : Nat), i + d = m.length → Ev (fun k => slices_insertionSortCmpFunc_int64.l0 k (up (ranks D i) ++ rng i m.length) 0 (m.length : Int) i [m] [f]) (up (ranks D m.length)) := by
    intro d
    induction d with
    | zero =>
      intro i h
      refine Ev_suc ?_
      simp only [slices_insertionSortCmpFunc_int64.l0]
      obtain rfl : i = m.length := by omega
      exact Ev_f (by omega) (Ev_n (by rw [rng_nil, List.append_nil]))
    | succ d ih =>
      intro i h
      refine Ev_suc ?_
      simp only [slices_insertionSortCmpFunc_int64.l0]
      refine Ev_t (by omega) ?_
      rw [rng_cons i _ (by omega)]
      have := impl_ins m f D hD (by omega) i (by omega) (m.length : Int) _ (ranks D i) (rng (i + 1) m.length) (fun z h => by rw [ranks_mem] at h; omega) (by rw [ranks_len, rng_len]; omega) (ih (i + 1) (by omega))
      rw [ranks_len] at this
      exact this
  have ins : Ev (fun k => slices_insertionSortCmpFunc_int64.f k (rng 0 m.length) 0 (m.length : Int) [m] [f]) (up (ranks D m.length)) := by
    simp only [slices_insertionSortCmpFunc_int64.f]
    rw [show wrap64 ((0 : Int) + 1) = 1 by rw [wr64 (by omega) (by omega)]; rfl]
    by_cases h0 : m.length = 0
    · refine Ev_suc ?_
      simp only [slices_insertionSortCmpFunc_int64.l0]
      rw [h0]
      exact Ev_f (by decide) (Ev_n rfl)
    · have := go (m.length - 1) 1 (by omega)
      rw [show up (ranks D 1) ++ rng 1 m.length = rng 0 m.length by rw [rng_cons 0 _ (by omega)]; rfl] at this
      exact this
  simp only [slices_SortStableFunc_int64_int64.f]
  refine Ev_b ?_ (Ev_n rfl)
  have hl : ((rng 0 m.length).length : Int) = (m.length : Int) := by rw [rng_len]; omega
  rw [hl]
  simp only [slices_stableCmpFunc_int64.f]
  refine Ev_suc ?_
  simp only [slices_stableCmpFunc_int64.l0]
  refine Ev_f (by omega) (Ev_b ins (Ev_suc ?_))
  simp only [slices_stableCmpFunc_int64.l1]
  exact Ev_f (by omega) (Ev_n rfl)
theorem ranked_ev (m : List Fe) (hl : (m.length : Int) ≤ 1048576) (f : Fe) (hf : (f.f1.length : Int) ≤ 1048576) : ∃ (r0 : List Int) (r1 : Int), (r0.length : Int) ≤ 1048576 ∧ Ev (fun k => spec_RankedFeatures.f k m f.f0 f.f1) (r0, r1) ∧ Ev (fun k => impl_RankedFeatures.f k m f.f0 f.f1) (r0, r1) ∧
    (r1 = 0 → m.length ≤ 16 ∧ (∀ y ∈ m, vF y) ∧ vF f ∧ ∃ D : Nat → Int, (∀ i (h : i < m.length), 0 ≤ D i ∧ D i ≤ 1530 ∧ Ev (fun k => spec_l26Away.f k [m[i]] [f]) (D i) ∧ Ev (fun k => impl_featureDistance.f k m[i].f0 m[i].f1 f.f0 f.f1) (D i)) ∧ r0 = up (ranks D m.length)) ∧ (∃ b, Ev (fun k => spec_l26Ok.f k m) b ∧ Ev (fun k => impl_ValidFeatures.f k m) b ∧ ∃ c, Ev (fun k => spec_l26One.f k [f]) c ∧ Ev (fun k => impl_ValidFeature.f k f.f0 f.f1) c ∧ r1 = if b = true ∧ c = true then 0 else 1) := by
  obtain ⟨b, hb, hbk⟩ := validS_ev m hl
  obtain ⟨c, hc, hck⟩ := valid_ev f.f0 f.f1
  have b1 : Ev (fun k => spec_l26Ok.f k m) b := Ev_all (fun k h => (hbk k h).1)
  have b2 : Ev (fun k => impl_ValidFeatures.f k m) b := Ev_all (fun k h => (hbk k h).2)
  have c1 : Ev (fun k => spec_l26One.f k [f]) c := Ev_all (fun k h => (hck k h).1)
  have c2 : Ev (fun k => impl_ValidFeature.f k f.f0 f.f1) c := Ev_all (fun k h => (hck k h).2)
  have bad : (b = false ∨ (b = true ∧ c = false)) → Ev (fun k => spec_RankedFeatures.f k m f.f0 f.f1) ([], 1) ∧ Ev (fun k => impl_RankedFeatures.f k m f.f0 f.f1) ([], 1) := by
    intro h
    simp only [spec_RankedFeatures.f, impl_RankedFeatures.f]
    rcases h with rfl | ⟨rfl, rfl⟩
    · exact ⟨Ev_b b1 (Ev_f (by decide) (Ev_suc (by simp only [spec_RankedFeatures.j0]; exact Ev_t (by simp) (Ev_n rfl)))), Ev_b b2 (Ev_f (by decide) (Ev_suc (by simp only [impl_RankedFeatures.j0]; exact Ev_t (by simp) (Ev_n rfl))))⟩
    · exact ⟨Ev_b b1 (Ev_t rfl (Ev_b c1 (Ev_suc (by simp only [spec_RankedFeatures.j0]; exact Ev_t (by simp) (Ev_n rfl))))), Ev_b b2 (Ev_t rfl (Ev_b c2 (Ev_suc (by simp only [impl_RankedFeatures.j0]; exact Ev_t (by simp) (Ev_n rfl)))))⟩
  cases b with
  | false => exact ⟨[], 1, by simp, (bad (.inl rfl)).1, (bad (.inl rfl)).2, fun h => absurd h (by decide), false, b1, b2, c, c1, c2, by simp⟩
  | true =>
    cases c with
    | false => exact ⟨[], 1, by simp, (bad (.inr ⟨rfl, rfl⟩)).1, (bad (.inr ⟨rfl, rfl⟩)).2, fun h => absurd h (by decide), true, b1, b2, false, c1, c2, by simp⟩
    | true =>
      obtain ⟨h16, hv⟩ := hb rfl
      have hvf : vF f := hc rfl
      obtain ⟨D, hD⟩ := dist_fun m f hv hvf
      refine ⟨up (ranks D m.length), 0, by rw [up_len, ranks_len]; exact hl, ?_, ?_, fun _ => ⟨h16, hv, hvf, D, hD, rfl⟩, true, b1, b2, true, c1, c2, by simp⟩
      · simp only [spec_RankedFeatures.f]
        refine Ev_b b1 (Ev_t rfl (Ev_b c1 (Ev_suc ?_)))
        simp only [spec_RankedFeatures.j0]
        refine Ev_f (by decide) ?_
        have go : ∀ (d i : Nat) (ds : List Int), i + d = m.length → ds.length = i → (∀ j, j < i → rd ds (j : Int) = - D j) → Ev (fun k => spec_RankedFeatures.l0 k m ds i f.f0 f.f1) (up (ranks D m.length), 0) := by
          intro d
          induction d with
          | zero =>
            intro i ds h h1 h2
            refine Ev_suc ?_
            simp only [spec_RankedFeatures.l0]
            obtain rfl : i = m.length := by omega
            exact Ev_f (by omega) (Ev_b (spec_order D m.length ds h1 (by omega) h2) (Ev_n rfl))
          | succ d ih =>
            intro i ds h h1 h2
            obtain ⟨v0, v1, ve, _⟩ := hD i (by omega)
            refine Ev_suc ?_
            simp only [spec_RankedFeatures.l0]
            rw [rdF_in m i (by omega)]
            refine Ev_t (by omega) (Ev_t (by omega) (Ev_b ve (Ev_t (by omega) ?_)))
            rw [wr64s i (by omega), wr64 (x := -D i) (by omega) (by omega)]
            refine ih (i + 1) _ (by omega) (by simp [h1]) (fun j hj => ?_)
            by_cases hji : j = i
            · subst hji; exact rd_mid ds [] _ _ h1
            · have h3 := h2 j (by omega)
              unfold rd at h3 ⊢
              rw [← h3, List.getD_eq_getElem?_getD, List.getD_eq_getElem?_getD, List.getElem?_append_left (by simp; omega)]
        exact go m.length 0 [] (by omega) rfl (fun j hj => absurd hj (by omega))
      · simp only [impl_RankedFeatures.f]
        refine Ev_b b2 (Ev_t rfl (Ev_b c2 (Ev_suc ?_)))
        simp only [impl_RankedFeatures.j0]
        refine Ev_f (by decide) ?_
        have go : ∀ (d i : Nat), i + d = m.length → Ev (fun k => impl_RankedFeatures.l0 k (rng 0 i) (m.length : Int) i m f.f0 f.f1) (up (ranks D m.length), 0) := by
          intro d
          induction d with
          | zero =>
            intro i h
            refine Ev_suc ?_
            simp only [impl_RankedFeatures.l0]
            obtain rfl : i = m.length := by omega
            exact Ev_f (by omega) (Ev_b (impl_order m f D hD h16) (Ev_n rfl))
          | succ d ih =>
            intro i h
            refine Ev_suc ?_
            simp only [impl_RankedFeatures.l0]
            refine Ev_t (by omega) (Ev_t (by rw [rng_len]; omega) ?_)
            rw [wr64s i (by omega), ← rng_last]
            exact ih (i + 1) (by omega)
        exact go m.length 0 (by omega)
end Go.Proofs.Yteafahnopgmgoaa.Q
namespace Go.Proofs.Yteafahnopgmgoaa.Q
open Go.RowKit Go.Proofs.YteafahnopgmgoaaW.PrintWords Go.Proofs.YteafahnopgmgoaaW.PrintLast Go.Proofs.YteafahnopgmgoaaW.PrintMore
set_option linter.unusedVariables false
theorem rdF_mid (a b : List Fe) (x : Fe) (i : Nat) (h : a.length = i) : rd_T28 (a ++ x :: b) (i : Int) = x := by unfold rd_T28; exact getD_at a b _ x i h
theorem mkf_ev (l : List Fe) (hl : (l.length : Int) ≤ 1048576) (hs : ∀ y ∈ l, (y.f1.length : Int) ≤ 1048576) : ∃ r l', 0 ≤ r ∧ r ≤ 2000000000000 ∧ Ev (fun k => laws_markFeatureS.f k l 1) (r, l') := by
  have go : ∀ (q p : List Fe) (i : Nat) (c : Int), (∀ y ∈ q, (y.f1.length : Int) ≤ 1048576) → p.length = i → 0 ≤ c → c ≤ 1 + 1048577 * (i : Int) → (i : Int) + q.length ≤ 1048576 → ∃ r l', 0 ≤ r ∧ r ≤ 2000000000000 ∧ Ev (fun k => laws_markFeatureS.l0 k (p ++ q) c i) (r, l') := by
    intro q
    induction q with
    | nil =>
      intro p i c q0 q1 q2 q3 q4
      refine ⟨c, p ++ [], q2, by omega, Ev_suc ?_⟩
      simp only [laws_markFeatureS.l0]
      exact Ev_f (by simp; omega) (Ev_n rfl)
    | cons x q ih =>
      intro p i c q0 q1 q2 q3 q4
      simp only [List.length_cons] at q4
      have hx := q0 x (List.mem_cons_self ..)
      have e0 : wrap64 (c + 1) = c + 1 := (wr64 (by omega) (by omega)).trans (by omega)
      obtain ⟨t0, ht0⟩ := markText_ev c (by omega) (by omega)
      obtain ⟨st, _, hst, _⟩ := mk_Int64 x.f1 (c + 1) (by omega) (by omega) (by omega)
      obtain ⟨r, l', hr, hr2, he⟩ := ih (p ++ [(⟨t0, st⟩ : Fe)]) (i + 1) (c + 1 + 1 * x.f1.length) (fun y hy => q0 y (List.mem_cons_of_mem _ hy)) (by simp; omega) (by omega) (by omega) (by omega)
      refine ⟨r, l', hr, hr2, Ev_suc ?_⟩
      simp only [laws_markFeatureS.l0, e0, set_at p q _ _ i q1, rdF_mid p q x i q1]
      refine Ev_t (by simp; omega) (Ev_b ht0 (Ev_b hst (Ev_t (by omega) ?_)))
      rw [wr64s i (by omega)]
      rw [List.append_assoc, List.singleton_append] at he
      exact he
  simp only [laws_markFeatureS.f]
  exact go l [] 0 1 hs rfl (by omega) (by omega) (by simpa using hl)
theorem eqF_of (a : ByteArray) {l : List Int} (h : Ev (fun k => laws_eqInt64S.f k l l) true) : Ev (fun k => laws_eqFeature.f k a l a l) true := by
  simp only [laws_eqFeature.f]
  exact Ev_t True.intro (Ev_b h (Ev_t rfl (Ev_n rfl)))
theorem mkF_of (a : ByteArray) {l q : List Int} {c v : Int} (h : Ev (fun k => laws_markInt64S.f k l c) (v, q)) : Ev (fun k => laws_markFeature.f k a l c) (v, q) := by
  simp only [laws_markFeature.f]
  exact Ev_b h (Ev_n rfl)
end Go.Proofs.Yteafahnopgmgoaa.Q
namespace Go.Proofs.Yteafahnopgmgoaa.Q
open Go.RowKit Go.Proofs.YteafahnopgmgoaaW.PrintWords Go.Proofs.YteafahnopgmgoaaW.PrintLast Go.Proofs.YteafahnopgmgoaaW.PrintMore
set_option linter.unusedVariables false
theorem law_RankedFeatures : laws_FnExactRankedFeatures.Pure := by
  intro x f hx hf
  have hM : maxLen = 9223372036854775807 := by decide
  refine Ev.rounds (r := true) ?_
  simp only [laws_FnExactRankedFeatures.f]
  refine Ev_b (szS_Feature x hx.1 hx.2 (1048576) (by omega) (by omega)) ?_
  by_cases cx : ((ZS_Feature x : Nat) : Int) ≤ 1048576
  case neg => rw [cut_neg cx]; exact Ev_t (by decide) (Ev_n rfl)
  rw [cut_pos cx]
  refine Ev_f (by omega) ?_
  refine Ev_b (sz_Feature f hf (1048576 - ((ZS_Feature x : Nat) : Int)) (by omega) (by omega)) ?_
  by_cases cf : ((Z_Feature f : Nat) : Int) ≤ 1048576 - ((ZS_Feature x : Nat) : Int)
  case neg => rw [cut_neg cf]; exact Ev_t (by decide) (Ev_n rfl)
  rw [cut_pos cf]
  refine Ev_f (by omega) ?_
  have nx : (x.length : Int) ≤ 1048576 := by have := (ZS_in_Feature x).1; omega
  have bx : ∀ q_ ∈ x, B_Feature q_ := fun q_ hq_ => B_of_Feature q_ (by have := (ZS_in_Feature x).2 q_ hq_; omega)
  have mx : ((x.map conv_Feature).length : Int) ≤ 1048576 := by simpa using nx
  have Ex : ∀ q_ ∈ x.map conv_Feature, E_Feature q_ := fun y hy => by obtain ⟨u, hu, rfl⟩ := List.mem_map.1 hy; exact E_of_Feature u (bx u hu)
  have tx := toS_Feature x nx bx
  have qx := eqS_Feature (x.map conv_Feature) mx Ex
  have zx : ∀ q_ ∈ x.map conv_Feature, ∃ u ∈ x, conv_Feature u = q_ ∧ ((Z_Feature u : Nat) : Int) ≤ 1048576 := fun y hy => by obtain ⟨u, hu, e⟩ := List.mem_map.1 hy; exact ⟨u, hu, e, by have := (ZS_in_Feature x).2 u hu; omega⟩
  have bf : B_Feature f := B_of_Feature f (by omega)
  have tf := to_Feature f bf
  obtain ⟨r0, r1, E0, e1, e2, _⟩ := ranked_ev (x.map conv_Feature) mx (conv_Feature f) (by unfold Z_Feature at cf; show ((f.f1.length : Nat) : Int) ≤ 1048576; omega)
  have qr0 := eqInt64S_ev' r0 (by omega)
  obtain ⟨Rx, px, hRx, gRx, mmx⟩ := mkf_ev (x.map conv_Feature) mx (fun y hy => by obtain ⟨u_, _, rfl, h_⟩ := zx y hy; unfold Z_Feature at h_; show ((u_.f1.length : Nat) : Int) ≤ 1048576; omega)
  obtain ⟨pr0, _, mr0, hr0⟩ := mk_Int64 r0 1 (by omega) (by omega) (by omega)
  have lf : ((conv_Feature f).f1.length : Int) ≤ 1048576 := (by unfold Z_Feature at cf; show ((f.f1.length : Nat) : Int) ≤ 1048576; omega)
  have qf := eqF_of (conv_Feature f).f0 (eq_Int64S (conv_Feature f).f1 lf)
  obtain ⟨pf, _, mf, _⟩ := mk_Int64 (conv_Feature f).f1 Rx hRx (by omega) (by omega)
  have nf := mkF_of (conv_Feature f).f0 mf
  repeat' (first | ((first | (with_reducible refine Ev_b e1 ?_) | (with_reducible refine Ev_b e2 ?_) | (with_reducible refine Ev_b tx ?_) | (with_reducible refine Ev_b qx ?_) | (with_reducible refine Ev_b tf ?_) | (with_reducible refine Ev_b qr0 ?_) | (with_reducible refine Ev_b mmx ?_) | (with_reducible refine Ev_b mr0 ?_) | (with_reducible refine Ev_b hr0 ?_) | (with_reducible refine Ev_b qf ?_) | (with_reducible refine Ev_b nf ?_)); try dsimp only) | (with_reducible refine Ev_t rfl ?_) | (with_reducible refine Ev_t True.intro ?_) | (refine Ev_f (by omega) ?_) | (refine Ev_t (by omega) ?_) | (refine Ev_f (by simp) ?_) | exact Ev_n rfl | (refine Ev_suc ?_; first | simp only [laws_FnExactRankedFeatures.j0] | simp only [laws_FnExactRankedFeatures.j1] | simp only [laws_FnExactRankedFeatures.j2]))
end Go.Proofs.Yteafahnopgmgoaa.Q
namespace Go.Proofs.Yteafahnopgmgoaa.Pure
open Go.Proofs.Yteafahnopgmgoaa.Q
theorem FnExactRankedFeatures : laws_FnExactRankedFeatures.Pure := law_RankedFeatures
end Go.Proofs.Yteafahnopgmgoaa.Pure
namespace Go.Proofs.Yteafahnopgmgoaa.fnExactRankedFeatures
open Go.ChangeShapes Go.WideShapes Go.ChangeAt Go.RowKit Go.Proofs.Yteafahnopgmgoaa.OPN Go.Proofs.Yteafahnopgmgoaa.Q Go.Proofs.YteafahnopgmgoaaW.PrintWords
open Go.ChangeMaps (open_string shut_string)
set_option linter.unusedVariables false
theorem own : ownKnob Try.prog.godebug = none := by kernel_rfl
theorem laidOut : laidOutB Try.prog = true := by kernel_rfl
set_option maxRecDepth 100000 in
theorem lifted (os : Os) (started : os.Started) (H : Type) (enc : TypeId × Value → H) :
    ReturnsInHanded {} Try.checked os 10 .any (Rows.fnExactRankedFeaturesSpec.pre6 enc Try.prog Try.f10 Rows.fnExactRankedFeaturesRow.domain false) (Rows.fnExactRankedFeaturesSpec.post enc Try.prog Try.f10 false true false false) := by
  refine returnsInHanded_of_change_sized (C := Try.checked) own started (by kernel_rfl) Try.func10
    (ChangeSpec.witness6 (enc := enc) (C := Try.checked) false ⟨#[], #[.slice none 0 0, .agg #[.string ByteArray.empty, .slice none 0 0]], []⟩ 8 (by kernel_rfl) (by kernel_rfl) (by kernel_rfl) (by kernel_rfl)) ?_
  intro W base args ds gs before hval0 hW hcnd hsz0 _
  have hval : ∀ (j : Nat) t v, Try.f10.params[j]? = some t → args[j]? = some v → Value.okWide Try.prog W .any base t v := hval0
  have hW' := hW
  obtain ⟨p, q, hA0, hV, rfl, hfz, hnd⟩ := hW
  have hA : DataW.TrodAll enc Try.prog W 0 (fun _ => true) true Try.f10.params.toList args.toList ds p := hA0
  rw [Try.params10] at hA hval
  obtain ⟨v0, vs0, d0, ds0, p0, q0, hargs, rfl, rfl, h0, r0⟩ := trodAll_cons hA
  obtain ⟨v1, vs1, d1, ds1, p1, q1, rfl, rfl, rfl, h1, r1⟩ := trodAll_cons r0
  obtain ⟨rfl, rfl, rfl⟩ := trodAll_nil r1
  obtain rfl : args = #[v0, v1] := by cases args; simp_all
  obtain ⟨rfl, rfl⟩ := trodVars_none hV
  have lt0 : ∀ x ∈ p0, x.block < W.heap.size := by obtain ⟨m, hm⟩ := h0; exact DataW.trod_lt m _ _ _ hm
  have k0 := h0
  obtain ⟨z0, y0, u0, rfl⟩ := okWide_slice Try.underlying32 (hval 0 32 v0 rfl rfl)
  obtain ⟨fu0, hf0⟩ := h0
  obtain ⟨x0, ⟨A0, c0, hcs0, hc0, hr0⟩, w0⟩ := ((opn_slice Try.underlying32 (by kernel_rfl) opn24) : Opn _ _ (Kd.slice 24 k24) _).get rfl hf0
  obtain ⟨rfl, rfl, rfl⟩ : A0 = z0 ∧ x0.length = y0 ∧ c0 = u0 := (fun (h_ : z0 = A0 ∧ y0 = x0.length ∧ u0 = c0) => ⟨h_.1.symm, h_.2.1.symm, h_.2.2.symm⟩) (by simpa [Value.cells] using hcs0)
  have lt1 : ∀ x ∈ p1, x.block < W.heap.size := by obtain ⟨m, hm⟩ := h1; exact DataW.trod_lt m _ _ _ hm
  have k1 := h1
  obtain ⟨cs1, rfl, hs1⟩ := okWide_struct Try.underlying24 (hval 1 24 v1 rfl rfl)
  obtain ⟨fu1, hf1⟩ := h1
  obtain ⟨x1, hK1, w1⟩ := opn24.get (by rw [← opn24.size, ← hs1]; simp [Value.cells]) hf1
  obtain ⟨A1_1, c1_1, hcs1, hc1_1, hr1_1⟩ := k24_open hK1
  obtain rfl : cs1 = #[.string x1.f0, .slice A1_1 x1.f1.length c1_1] := by apply Array.ext'; exact hcs1
  clear hA0 hval0 hsz0
  obtain ⟨k, hP⟩ := Pure.FnExactRankedFeatures x0 x1 w0 w1
  refine (laws_FnExactRankedFeatures.calls k A0 c0 x0 x1.f0 A1_1 c1_1 x1.f1 true W hr0 hc0 hr1_1 hc1_1 hP).mono fun e W' hh => ?_
  obtain ⟨rfl, bel0⟩ := hh
  have bel : Below W.heap.size W W' := bel0
  exact ⟨_, rfl, _, _, _, [], _, [], hW', trodAll_mk1 (shut_bool Try.underlying4 _), (trodAll_cons_mk (Below.trod laidOut (by kernel_rfl) (of_decide_eq_true (by kernel_rfl)) k0 bel lt0) (trodAll_cons_mk (Below.trod laidOut (by kernel_rfl) (of_decide_eq_true (by kernel_rfl)) k1 bel lt1) trodAll_mk0)), rfl, bel.frame _, fun h => by cases h⟩
theorem over : Rows.fnExactRankedFeaturesRow.holds Try.pinned (OpenSpec.ofChange Rows.fnExactRankedFeaturesSpec) :=
  OpenClaim.holds_of_wide 10 Try.f10 rfl rfl rfl rfl rfl rfl rfl ⟨rfl, rfl, rfl, rfl, rfl⟩ rfl rfl rfl rfl rfl (by kernel_rfl) Try.func10 (by kernel_rfl)
    (of_decide_eq_true (by kernel_rfl)) (by unfold Func.isWrapper; first | (rw [if_pos (by decide +kernel)]; kernel_rfl) | (rw [if_neg (by decide +kernel)]; exact ⟨rfl, rfl⟩))
    (fun os started H enc _ => lifted os started H enc)
theorem proved : Rows.FnExactRankedFeaturesSaid := over
#print axioms proved
end Go.Proofs.Yteafahnopgmgoaa.fnExactRankedFeatures
namespace Go.Proofs.Yteafahnopgmgoaa
theorem fnExactRankedFeatures_holds : Rows.FnExactRankedFeaturesSaid := fnExactRankedFeatures.proved
end Go.Proofs.Yteafahnopgmgoaa
