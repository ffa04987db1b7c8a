/- For every list of features and every feature, the law FnExactNearestFeature returns true: the program gives the same nearest feature and distance as the reference. This text holds the last walks, the plain law and the row. -/
import Derived.Test.YteafahnopgmgoaaRows
import Derived.WalkKit
import Derived.ProofKit
import Derived.OpenShut
import Derived.ShutString
import Derived.ChangeOld
import Derived.Below
import Derived.SizedLaws
import Derived.Carry
import Derived.Test.YteafahnopgmgoaaKFnExactNearestFeaturea
import Derived.Test.YteafahnopgmgoaaKFnExactNearestFeatureb
import Derived.Test.YteafahnopgmgoaaKFnExactNearestFeaturec
set_option linter.unusedVariables false
set_option linter.unusedSimpArgs false
namespace Go.Proofs.Yteafahnopgmgoaa.Q
open Go.RowKit Go.Proofs.YteafahnopgmgoaaW.PrintWords Go.Proofs.YteafahnopgmgoaaW.PrintLast Go.Proofs.YteafahnopgmgoaaW.PrintMore
attribute [local go_sem] max2_int min2_int max_two min_two max_three min_three max_four min_four
set_option linter.unusedVariables false
set_option linter.unusedSimpArgs false
def laws_FnExactNearestFeature.j0 : Nat → List (S24) → List (S28) → Bool → ByteArray → List Int → ByteArray → List Int → Option (Bool)
  | 0, _, _, _, _, _, _, _ => none
  | k + 1, x0, x9, x56, x102000, x102001, x122000, x122001 => if x56 = true then (some false) else ((laws_toFeatureS.f k x0).bind fun t125 => ((laws_eqFeatureS.f k x9 t125).bind fun t128 => (if t128 = true then ((laws_toFeature.f k x102000 x102001).bind fun bt129 => ((laws_eqFeature.f k x122000 x122001 bt129.1 bt129.2).bind fun t133 => (if t133 = true then (some true) else (some false)))) else (some false))))
def laws_FnExactNearestFeature.f (k : Nat) (l0 : List (S24)) (a1_0 : ByteArray) (l1_1 : List Int) : Option (Bool) := (laws_szFeatureS.f k l0 1048576).bind fun t102 => (if t102 < 0 then (some true) else ((laws_szFeature.f a1_0 l1_1 t102).bind fun t103 => (if t103 < 0 then (some true) else ((laws_toFeatureS.f k l0).bind fun t104 => ((laws_toFeature.f k a1_0 l1_1).bind fun bt107 => ((spec_NearestFeature.f k t104 bt107.1 bt107.2).bind fun bt111 => ((laws_toFeatureS.f k l0).bind fun t114 => ((laws_toFeature.f k a1_0 l1_1).bind fun bt117 => ((impl_NearestFeature.f k t114 bt117.1 bt117.2).bind fun bt122 => (if bt122.1 = bt111.1 then (if bt122.2.1 = bt111.2.1 then (laws_FnExactNearestFeature.j0 k l0 t114 (bt122.2.2 != bt111.2.2) a1_0 l1_1 bt117.1 bt117.2) else (laws_FnExactNearestFeature.j0 k l0 t114 true a1_0 l1_1 bt117.1 bt117.2)) else (laws_FnExactNearestFeature.j0 k l0 t114 true a1_0 l1_1 bt117.1 bt117.2)))))))))))
def laws_FnExactNearestFeature.T8 : Bool × List (List Nat × List Nat) := (true, [([], []), ([0], [0]), ([], []), ([2, 1], [2]), ([1, 3, 3], [1, 3]), ([4], [4]), ([5], [5]), ([5], [5]), ([5], [5]), ([6, 4, 0, 1, 2, 3, 4, 5, 6], [6]), ([7, 9, 0, 1, 2, 3, 4, 5, 6, 7, 9], [7]), ([8, 10, 0, 1, 2, 3, 4, 5, 6, 7, 8, 9, 10], [8])])
def laws_FnExactNearestFeature.B8 : List Nat := [0, 1, 0, 7, 15, 31, 63, 63, 63, 127, 767, 2047]
theorem laws_FnExactNearestFeature.tab8 : rtab .any (opsOf Try.f9 8) = laws_FnExactNearestFeature.T8 := by kernel_rfl
theorem laws_FnExactNearestFeature.bits8 : waitsOk laws_FnExactNearestFeature.T8.2 laws_FnExactNearestFeature.B8 = true := by kernel_rfl
set_option maxHeartbeats 8000000 in
set_option maxRecDepth 100000 in
theorem laws_FnExactNearestFeature.calls (k : Nat) (A0 : Option Addr) (c0 : Nat) (l0 : List (S24)) (a1_0 : ByteArray) (A1_1 : Option Addr) (c1_1 : Nat) (l1_1 : List Int) (r : Bool) (w : World) (hr0 : Kd.C k24 w A0 l0.length l0) (hc0 : l0.length ≤ c0) (hr1_1 : Kd.C (Kd.int .i64) w A1_1 l1_1.length l1_1) (hc1_1 : l1_1.length ≤ c1_1) (h : laws_FnExactNearestFeature.f k l0 a1_0 l1_1 = some r) :
    Calls Try.prog 9 #[.slice A0 l0.length c0, .agg #[.string a1_0, .slice A1_1 l1_1.length c1_1]] w fun e w' => e = .returned (.bool r) ∧ Below w.heap.size w w' := by
  have hu24 := Try.underlying24
  have hu28 := Try.underlying28
  have HR0 := Aside0.mk hr0
  have HC0 := Aside0.mk hc0
  clear hr0 hc0
  have HR1_1 := Aside0.mk hr1_1
  have HC1_1 := Aside0.mk hc1_1
  clear hr1_1 hc1_1
  have HB := Aside0.mk (Below.refl w.heap.size w)
  have H : ((laws_szFeatureS.f k l0 1048576).bind fun t102 => (if t102 < 0 then (some true) else ((laws_szFeature.f a1_0 l1_1 t102).bind fun t103 => (if t103 < 0 then (some true) else ((laws_toFeatureS.f k l0).bind fun t104 => ((laws_toFeature.f k a1_0 l1_1).bind fun bt107 => ((spec_NearestFeature.f k t104 bt107.1 bt107.2).bind fun bt111 => ((laws_toFeatureS.f k l0).bind fun t114 => ((laws_toFeature.f k a1_0 l1_1).bind fun bt117 => ((impl_NearestFeature.f k t114 bt117.1 bt117.2).bind fun bt122 => (if bt122.1 = bt111.1 then (if bt122.2.1 = bt111.2.1 then (laws_FnExactNearestFeature.j0 k l0 t114 (bt122.2.2 != bt111.2.2) a1_0 l1_1 bt117.1 bt117.2) else (laws_FnExactNearestFeature.j0 k l0 t114 true a1_0 l1_1 bt117.1 bt117.2)) else (laws_FnExactNearestFeature.j0 k l0 t114 true a1_0 l1_1 bt117.1 bt117.2)))))))))))) = some r := h
  clear h
  replace H := Option.bind_eq_some_iff.mp H
  obtain ⟨t102, A30, H⟩ := H
  replace H : (if t102 < 0 then (some true) else ((laws_szFeature.f a1_0 l1_1 t102).bind fun t103 => (if t103 < 0 then (some true) else ((laws_toFeatureS.f k l0).bind fun t104 => ((laws_toFeature.f k a1_0 l1_1).bind fun bt107 => ((spec_NearestFeature.f k t104 bt107.1 bt107.2).bind fun bt111 => ((laws_toFeatureS.f k l0).bind fun t114 => ((laws_toFeature.f k a1_0 l1_1).bind fun bt117 => ((impl_NearestFeature.f k t114 bt117.1 bt117.2).bind fun bt122 => (if bt122.1 = bt111.1 then (if bt122.2.1 = bt111.2.1 then (laws_FnExactNearestFeature.j0 k l0 t114 (bt122.2.2 != bt111.2.2) a1_0 l1_1 bt117.1 bt117.2) else (laws_FnExactNearestFeature.j0 k l0 t114 true a1_0 l1_1 bt117.1 bt117.2)) else (laws_FnExactNearestFeature.j0 k l0 t114 true a1_0 l1_1 bt117.1 bt117.2))))))))))) = some r := H
  have A3 := Aside0.mk A30
  clear A30
  have HC4 := Aside0.mk H
  clear H
  go_enter Try.func9, Try.ntmps9
  go_upto_if 18 with (first | ((with_reducible refine gate_dst (N := 3) rfl ?_); refine box_event ?hg (N := 3) ?hd (cs := #[.string a1_0, .slice A1_1 l1_1.length c1_1]) (t := 24) ?hr ?_; (case hd => rfl); (case hg => rfl); (case hr => first | (go_simp; done) | (go_simp; rfl)); intro gb101 hg w5 hbox hb; have n0_ := Aside0.mk (below_step (by repeat (first | (with_reducible first | exact HB.out | apply below_alloc | apply pw_below_drewN | apply below_drew1) | exact HB.out)) hb); have n1_ := Aside0.mk (hbox); have n2_ := Aside0.mk ((by rw [hg]; exact (below_size (by repeat (first | (with_reducible first | exact HB.out | apply below_alloc | apply pw_below_drewN | apply below_drew1) | exact HB.out))) : w.heap.size ≤ gb101)); have n3_ := Aside0.mk ((by rw [hg]; exact (below_size (by repeat (first | (with_reducible first | exact HB.out | apply below_alloc | apply pw_below_drewN | apply below_drew1) | exact HB.out))) : w.heap.size ≤ gb101)); clear HB; have HB := n0_; have BK101 := n1_; have GW101 := n2_; have GE101 := n3_; clear n0_ n1_ n2_ n3_; clear hb hbox hg) | ((with_reducible refine gate_callee (f := 17) rfl ?_); refine goesL_ (some 16) rfl rfl Try.func17 (by kernel_rfl) rfl #[.slice A0 l0.length c0, .int .i64 1048576] rfl (by (try simp only [List.map_toArray, List.map_cons, List.map_nil]); first | done | rfl | (simp only [List.length_drop, List.length_take]; rfl)) ?_; (with_reducible refine (laws_szFeatureS.calls k _ _ l0 1048576 t102 _ ?side1 ?side2 A3.out).mono ?_); (case side1 => repeat (first | exact (Kd.C_below HR0.out HB.out) | (with_reducible refine Kd.C_alloc ?_ _) | (with_reducible refine Kd.C_drewN ?_ _) | (with_reducible refine Kd.C_drew ?_))); (case side2 => exact HC0.out); rintro e w6 ⟨rfl, hb⟩; refine ⟨_, rfl, ?_⟩; have n0_ := Aside0.mk (blk_below (g := gb101) (o := .cells #[.string a1_0, .slice A1_1 l1_1.length c1_1] 24 (0, 0)) (by (with_reducible repeat (first | refine blk_drewN ?_ _ | refine blk_drew ?_ | refine blk_alloc ?_ _)); exact BK101.out) hb); have n1_ := Aside0.mk (below_step (by repeat (first | (with_reducible first | exact HB.out | apply below_alloc | apply pw_below_drewN | apply below_drew1 | refine below_set ?_ GE101.out) | exact HB.out)) hb); clear BK101; clear HB; have BK101 := n0_; have HB := n1_; clear n0_ n1_; (try clear hb); (try clear hb2); (try clear hk); (try clear hi)))
  (try simp only [Act.put, List.setIfInBounds_toArray, List.set_cons_zero, List.set_cons_succ])
  have H := HC4.out
  clear HC4
  by_cases c7 : t102 < 0
  · rw [if_pos c7] at H
    have c7b0 : decide (t102 < 0) = true := decide_eq_true c7
    clear c7
    (first | rw [c7b0] | (simp only [i64_w, i32_w]; rw [c7b0]) | (simp only [c7b2, Bool.not_true, Bool.not_false]) | (simp only [c7b1, Bool.not_true, Bool.not_false]) | (simp only [c7b0, Bool.not_true, Bool.not_false]) | skip)
    obtain rfl := Option.some.inj H
    go_wp2
    go_ret
    exact ⟨by first | rfl | (simp [errW_none, errW_some] <;> rfl) | (simp [*, errW_none, errW_some] <;> rfl), by repeat (first | (with_reducible first | exact HB.out | apply below_alloc | apply pw_below_drewN | apply below_drew1 | refine below_set ?_ GE101.out) | exact HB.out)⟩
  · rw [if_neg c7] at H
    have c7b0 : decide (t102 < 0) = false := decide_eq_false c7
    clear c7
    (first | rw [c7b0] | (simp only [i64_w, i32_w]; rw [c7b0]) | (simp only [c7b2, Bool.not_true, Bool.not_false]) | (simp only [c7b1, Bool.not_true, Bool.not_false]) | (simp only [c7b0, Bool.not_true, Bool.not_false]) | skip)
    replace H := Option.bind_eq_some_iff.mp H
    obtain ⟨t103, A80, H⟩ := H
    replace H : (if t103 < 0 then (some true) else ((laws_toFeatureS.f k l0).bind fun t104 => ((laws_toFeature.f k a1_0 l1_1).bind fun bt107 => ((spec_NearestFeature.f k t104 bt107.1 bt107.2).bind fun bt111 => ((laws_toFeatureS.f k l0).bind fun t114 => ((laws_toFeature.f k a1_0 l1_1).bind fun bt117 => ((impl_NearestFeature.f k t114 bt117.1 bt117.2).bind fun bt122 => (if bt122.1 = bt111.1 then (if bt122.2.1 = bt111.2.1 then (laws_FnExactNearestFeature.j0 k l0 t114 (bt122.2.2 != bt111.2.2) a1_0 l1_1 bt117.1 bt117.2) else (laws_FnExactNearestFeature.j0 k l0 t114 true a1_0 l1_1 bt117.1 bt117.2)) else (laws_FnExactNearestFeature.j0 k l0 t114 true a1_0 l1_1 bt117.1 bt117.2))))))))) = some r := H
    have A8 := Aside0.mk A80
    clear A80
    have HC9 := Aside0.mk H
    clear H
    have hcz10_0 : w6.cell? ⟨gb101, 0, none⟩ = some (.string a1_0) := (blk_cell BK101.out 0).trans rfl
    have hcz10_1 : w6.cell? ⟨gb101, 1, none⟩ = some (.slice A1_1 l1_1.length c1_1) := (blk_cell BK101.out 1).trans rfl
    have hfz10_0 := blk_frozen BK101.out 0
    have hfz10_1 := blk_frozen BK101.out 1
    go_upto_if 23 with (first | ((with_reducible refine gate_callee (f := 12) rfl ?_); refine goesL_ (some 21) rfl rfl Try.func12 (by kernel_rfl) rfl #[.agg #[.string a1_0, .slice A1_1 l1_1.length c1_1], .int .i64 t102] rfl (by (try simp only [List.map_toArray, List.map_cons, List.map_nil]); first | done | rfl | (simp only [List.length_drop, List.length_take]; rfl)) ?_; (with_reducible refine (laws_szFeature.calls a1_0 _ _ l1_1 t102 t103 _ ?side1 ?side2 A8.out).mono ?_); (case side1 => repeat (first | exact (Kd.C_below HR1_1.out (by repeat (first | (with_reducible first | exact HB.out | apply below_alloc | apply pw_below_drewN | apply below_drew1 | refine below_set ?_ GE101.out) | exact HB.out))) | (with_reducible refine Kd.C_alloc ?_ _) | (with_reducible refine Kd.C_drewN ?_ _) | (with_reducible refine Kd.C_drew ?_))); (case side2 => exact HC1_1.out); rintro e w11 ⟨rfl, hb⟩; refine ⟨_, rfl, ?_⟩; have n0_ := Aside0.mk (blk_below (g := gb101) (o := .cells #[.string a1_0, .slice A1_1 l1_1.length c1_1] 24 (0, 0)) (by (with_reducible repeat (first | refine blk_drewN ?_ _ | refine blk_drew ?_ | refine blk_alloc ?_ _)); exact BK101.out) hb); have n1_ := Aside0.mk (below_step (by repeat (first | (with_reducible first | exact HB.out | apply below_alloc | apply pw_below_drewN | apply below_drew1 | refine below_set ?_ GE101.out) | exact HB.out)) hb); clear BK101; clear HB; have BK101 := n0_; have HB := n1_; clear n0_ n1_; (try clear hb); (try clear hb2); (try clear hk); (try clear hi)))
    (try simp only [Act.put, List.setIfInBounds_toArray, List.set_cons_zero, List.set_cons_succ])
    have H := HC9.out
    clear HC9
    by_cases c12 : t103 < 0
    · rw [if_pos c12] at H
      have c12b0 : decide (t103 < 0) = true := decide_eq_true c12
      clear c12
      (first | rw [c12b0] | (simp only [i64_w, i32_w]; rw [c12b0]) | (simp only [c12b2, Bool.not_true, Bool.not_false]) | (simp only [c12b1, Bool.not_true, Bool.not_false]) | (simp only [c12b0, Bool.not_true, Bool.not_false]) | skip)
      obtain rfl := Option.some.inj H
      go_wp2
      go_ret
      exact ⟨by first | rfl | (simp [errW_none, errW_some] <;> rfl) | (simp [*, errW_none, errW_some] <;> rfl), by repeat (first | (with_reducible first | exact HB.out | apply below_alloc | apply pw_below_drewN | apply below_drew1 | refine below_set ?_ GE101.out) | exact HB.out)⟩
    · rw [if_neg c12] at H
      have c12b0 : decide (t103 < 0) = false := decide_eq_false c12
      clear c12
      (first | rw [c12b0] | (simp only [i64_w, i32_w]; rw [c12b0]) | (simp only [c12b2, Bool.not_true, Bool.not_false]) | (simp only [c12b1, Bool.not_true, Bool.not_false]) | (simp only [c12b0, Bool.not_true, Bool.not_false]) | skip)
      replace H := Option.bind_eq_some_iff.mp H
      obtain ⟨t104, A130, H⟩ := H
      replace H : ((laws_toFeature.f k a1_0 l1_1).bind fun bt107 => ((spec_NearestFeature.f k t104 bt107.1 bt107.2).bind fun bt111 => ((laws_toFeatureS.f k l0).bind fun t114 => ((laws_toFeature.f k a1_0 l1_1).bind fun bt117 => ((impl_NearestFeature.f k t114 bt117.1 bt117.2).bind fun bt122 => (if bt122.1 = bt111.1 then (if bt122.2.1 = bt111.2.1 then (laws_FnExactNearestFeature.j0 k l0 t114 (bt122.2.2 != bt111.2.2) a1_0 l1_1 bt117.1 bt117.2) else (laws_FnExactNearestFeature.j0 k l0 t114 true a1_0 l1_1 bt117.1 bt117.2)) else (laws_FnExactNearestFeature.j0 k l0 t114 true a1_0 l1_1 bt117.1 bt117.2))))))) = some r := H
      have A13 := Aside0.mk A130
      clear A130
      replace H := Option.bind_eq_some_iff.mp H
      obtain ⟨⟨t107, t108⟩, A140, H⟩ := H
      replace H : ((spec_NearestFeature.f k t104 t107 t108).bind fun bt111 => ((laws_toFeatureS.f k l0).bind fun t114 => ((laws_toFeature.f k a1_0 l1_1).bind fun bt117 => ((impl_NearestFeature.f k t114 bt117.1 bt117.2).bind fun bt122 => (if bt122.1 = bt111.1 then (if bt122.2.1 = bt111.2.1 then (laws_FnExactNearestFeature.j0 k l0 t114 (bt122.2.2 != bt111.2.2) a1_0 l1_1 bt117.1 bt117.2) else (laws_FnExactNearestFeature.j0 k l0 t114 true a1_0 l1_1 bt117.1 bt117.2)) else (laws_FnExactNearestFeature.j0 k l0 t114 true a1_0 l1_1 bt117.1 bt117.2)))))) = some r := H
      have A14 := Aside0.mk A140
      clear A140
      replace H := Option.bind_eq_some_iff.mp H
      obtain ⟨⟨t111, t112, t113⟩, A150, H⟩ := H
      replace H : ((laws_toFeatureS.f k l0).bind fun t114 => ((laws_toFeature.f k a1_0 l1_1).bind fun bt117 => ((impl_NearestFeature.f k t114 bt117.1 bt117.2).bind fun bt122 => (if bt122.1 = t111 then (if bt122.2.1 = t112 then (laws_FnExactNearestFeature.j0 k l0 t114 (bt122.2.2 != t113) a1_0 l1_1 bt117.1 bt117.2) else (laws_FnExactNearestFeature.j0 k l0 t114 true a1_0 l1_1 bt117.1 bt117.2)) else (laws_FnExactNearestFeature.j0 k l0 t114 true a1_0 l1_1 bt117.1 bt117.2))))) = some r := H
      have A15 := Aside0.mk A150
      clear A150
      replace H := Option.bind_eq_some_iff.mp H
      obtain ⟨t114, A160, H⟩ := H
      replace H : ((laws_toFeature.f k a1_0 l1_1).bind fun bt117 => ((impl_NearestFeature.f k t114 bt117.1 bt117.2).bind fun bt122 => (if bt122.1 = t111 then (if bt122.2.1 = t112 then (laws_FnExactNearestFeature.j0 k l0 t114 (bt122.2.2 != t113) a1_0 l1_1 bt117.1 bt117.2) else (laws_FnExactNearestFeature.j0 k l0 t114 true a1_0 l1_1 bt117.1 bt117.2)) else (laws_FnExactNearestFeature.j0 k l0 t114 true a1_0 l1_1 bt117.1 bt117.2)))) = some r := H
      have A16 := Aside0.mk A160
      clear A160
      replace H := Option.bind_eq_some_iff.mp H
      obtain ⟨⟨t117, t118⟩, A170, H⟩ := H
      replace H : ((impl_NearestFeature.f k t114 t117 t118).bind fun bt122 => (if bt122.1 = t111 then (if bt122.2.1 = t112 then (laws_FnExactNearestFeature.j0 k l0 t114 (bt122.2.2 != t113) a1_0 l1_1 t117 t118) else (laws_FnExactNearestFeature.j0 k l0 t114 true a1_0 l1_1 t117 t118)) else (laws_FnExactNearestFeature.j0 k l0 t114 true a1_0 l1_1 t117 t118))) = some r := H
      have A17 := Aside0.mk A170
      clear A170
      replace H := Option.bind_eq_some_iff.mp H
      obtain ⟨⟨t122, t123, t124⟩, A180, H⟩ := H
      replace H : (if t122 = t111 then (if t123 = t112 then (laws_FnExactNearestFeature.j0 k l0 t114 (t124 != t113) a1_0 l1_1 t117 t118) else (laws_FnExactNearestFeature.j0 k l0 t114 true a1_0 l1_1 t117 t118)) else (laws_FnExactNearestFeature.j0 k l0 t114 true a1_0 l1_1 t117 t118)) = some r := H
      have A18 := Aside0.mk A180
      clear A180
      have HC19 := Aside0.mk H
      clear H
      try go_wp2
      (try (rw [drewN_self w11]; generalize hq_ : World.drewN w11 _ = w11; have n0_ : Aside0 (w11.heap[gb101]? = some (.cells #[.string a1_0, .slice A1_1 l1_1.length c1_1] 24 (0, 0))) := ⟨by rw [← hq_]; exact (by (with_reducible repeat (first | refine blk_drewN ?_ _ | refine blk_drew ?_ | refine blk_alloc ?_ _)); exact BK101.out)⟩; have n1_ : Aside0 (Below w.heap.size w w11) := ⟨by rw [← hq_]; exact (by repeat (first | (with_reducible first | exact HB.out | apply below_alloc | apply pw_below_drewN | apply below_drew1 | refine below_set ?_ GE101.out) | exact HB.out))⟩; clear BK101 HB hq_; have BK101 := n0_; have HB := n1_; clear n0_ n1_))
      have n0_ := Aside0.mk (blk_drew BK101.out)
      have n1_ := Aside0.mk (below_drew1 HB.out)
      clear BK101
      clear HB
      have BK101 := n0_
      have HB := n1_
      clear n0_ n1_
      refine start_ (n := 12) (S := fun w' => w'.cell? ⟨gb101, 0, none⟩ = some (.string a1_0) ∧ w'.cell? ⟨gb101, 1, none⟩ = some (.slice A1_1 l1_1.length c1_1)) (ds := []) #[false, false, false, false, false, false, false, false, false, false, false, false] (by kernel_rfl) rfl rfl ⟨(blk_cell BK101.out 0).trans rfl, (blk_cell BK101.out 1).trans rfl⟩ (fun hHeld => ?_); refine with_tabW laws_FnExactNearestFeature.tab8 laws_FnExactNearestFeature.bits8 (fun HT_ HW_ => ?_)
      generalize w11.drew = w20 at BK101 HB hHeld ⊢
      refine pure_ (i := 0) (N := some 25) (v := ?_) (a' := ?_) #[true, false, false, false, false, false, false, false, false, false, false, false] rfl rfl (any_of HT_.out (by kernel_rfl)) (fun _ _ _ h => h) (Or.inl ⟨by rfl, ?_⟩) ?_ ?_
      rotate_left
      · intro w'
        go_simp
        with_reducible rfl
      rotate_left
      · simp only [Act.put, List.setIfInBounds_toArray, List.set_cons_zero, List.set_cons_succ, i64_w, i32_w]
        rfl
      refine take_ (i := 2) (N := some 27) (v := ?_) (a' := ?_) #[true, false, true, false, false, false, false, false, false, false, false, false] rfl rfl (take_ofW HT_.out HW_.out (by kernel_rfl)) (fun _ _ _ h => h) (Or.inl ⟨by rfl, ?_⟩) hHeld ?_ ?_
      rotate_left
      · rintro w' ⟨s0, s1⟩
        go_simp
        with_reducible rfl
      rotate_left
      · simp only [Act.put, List.setIfInBounds_toArray, List.set_cons_zero, List.set_cons_succ, i64_w, i32_w]
        rfl
      refine one_ (i := 1) (N := some 26) #[true, true, true, false, false, false, false, false, false, false, false, false] rfl rfl (one_of HT_.out (by kernel_rfl)) (by decide) (fun K hK => ?_)
      (first | refine goes_ Try.func19 (by kernel_rfl) rfl #[.slice A0 l0.length c0] (by rfl) rfl rfl (by (try simp only [List.map_toArray, List.map_cons, List.map_nil]); first | done | rfl | (simp only [List.length_drop, List.length_take]; rfl)) ?_ | refine RPW.goesV_ Try.func19 (by kernel_rfl) rfl #[.slice A0 l0.length c0] (by rfl) rfl rfl rfl (by (try simp only [List.map_toArray, List.map_cons, List.map_nil]); first | done | rfl | (simp only [List.length_drop, List.length_take]; rfl)) ?_ | refine RPW.goesC_ Try.func19 (by kernel_rfl) rfl #[.slice A0 l0.length c0] (by rfl) rfl rfl rfl (by (try simp only [List.map_toArray, List.map_cons, List.map_nil]); first | done | rfl | (simp only [List.length_drop, List.length_take]; rfl)) ?_)
      with_reducible refine (laws_toFeatureS.calls k _ _ l0 t104 _ ?side1 ?side2 A13.out).mono ?_
      (case side1 => repeat (first | exact (Kd.C_below HR0.out HB.out) | (with_reducible refine Kd.C_alloc ?_ _) | (with_reducible refine Kd.C_drewN ?_ _) | (with_reducible refine Kd.C_drew ?_)))
      (case side2 => exact HC0.out)
      rintro e w21 ⟨v105, rfl, ho0, hb⟩
      refine ⟨_, rfl, ?_⟩
      have n0_ := Aside0.mk (Kd.S_lower ho0 (below_size (by repeat (first | (with_reducible first | exact HB.out | apply below_alloc | apply pw_below_drewN | apply below_drew1 | refine below_set ?_ GE101.out) | exact HB.out))))
      have n1_ := Aside0.mk (blk_below (g := gb101) (o := .cells #[.string a1_0, .slice A1_1 l1_1.length c1_1] 24 (0, 0)) (by (with_reducible repeat (first | refine blk_drewN ?_ _ | refine blk_drew ?_ | refine blk_alloc ?_ _)); exact BK101.out) hb)
      have n2_ := Aside0.mk (below_step (by repeat (first | (with_reducible first | exact HB.out | apply below_alloc | apply pw_below_drewN | apply below_drew1 | refine below_set ?_ GE101.out) | exact HB.out)) hb)
      clear BK101
      clear HB
      have HO106 := n0_
      have BK101 := n1_
      have HB := n2_
      clear n0_ n1_ n2_
      (try clear hb)
      (try clear hb2)
      (try clear hk)
      (try clear hi)
      (try clear ho0)
      refine hK.out _ _ ⟨(blk_cell BK101.out 0).trans rfl, (blk_cell BK101.out 1).trans rfl⟩ (fun hHeld => ?_)
      clear hK K
      refine norm_ (a' := ?_) ?_ ?_
      rotate_left
      · show Act.put _ (some 26) _ = _
        simp only [Act.put, List.setIfInBounds_toArray, List.set_cons_zero, List.set_cons_succ, i64_w, i32_w]
        rfl
      refine one_ (i := 3) (N := some 28) #[true, true, true, true, false, false, false, false, false, false, false, false] rfl rfl (one_of HT_.out (by kernel_rfl)) (by decide) (fun K hK => ?_)
      (first | refine goes_ Try.func14 (by kernel_rfl) rfl #[.agg #[.string a1_0, .slice A1_1 l1_1.length c1_1]] (by rfl) rfl rfl (by (try simp only [List.map_toArray, List.map_cons, List.map_nil]); first | done | rfl | (simp only [List.length_drop, List.length_take]; rfl)) ?_ | refine RPW.goesV_ Try.func14 (by kernel_rfl) rfl #[.agg #[.string a1_0, .slice A1_1 l1_1.length c1_1]] (by rfl) rfl rfl rfl (by (try simp only [List.map_toArray, List.map_cons, List.map_nil]); first | done | rfl | (simp only [List.length_drop, List.length_take]; rfl)) ?_ | refine RPW.goesC_ Try.func14 (by kernel_rfl) rfl #[.agg #[.string a1_0, .slice A1_1 l1_1.length c1_1]] (by rfl) rfl rfl rfl (by (try simp only [List.map_toArray, List.map_cons, List.map_nil]); first | done | rfl | (simp only [List.length_drop, List.length_take]; rfl)) ?_)
      with_reducible refine (laws_toFeature.calls k a1_0 _ _ l1_1 t107 t108 _ ?side1 ?side2 A14.out).mono ?_
      (case side1 => repeat (first | exact (Kd.C_below HR1_1.out HB.out) | (with_reducible refine Kd.C_alloc ?_ _) | (with_reducible refine Kd.C_drewN ?_ _) | (with_reducible refine Kd.C_drew ?_)))
      (case side2 => exact HC1_1.out)
      rintro e w22 ⟨v109, rfl, ho0, hb⟩
      refine ⟨_, rfl, ?_⟩
      have n0_ := Aside0.mk (Kd.S_elder' (by (with_reducible repeat (first | apply Kd.S_alloc | apply Kd.S_drewN | apply Kd.S_drew)); exact HO106.out) (Kd.R_base ho0) hb)
      have n1_ := Aside0.mk (Kd.R_lower ho0 (below_size (by repeat (first | (with_reducible first | exact HB.out | apply below_alloc | apply pw_below_drewN | apply below_drew1 | refine below_set ?_ GE101.out) | exact HB.out))))
      have n2_ := Aside0.mk (blk_below (g := gb101) (o := .cells #[.string a1_0, .slice A1_1 l1_1.length c1_1] 24 (0, 0)) (by (with_reducible repeat (first | refine blk_drewN ?_ _ | refine blk_drew ?_ | refine blk_alloc ?_ _)); exact BK101.out) hb)
      have n3_ := Aside0.mk (below_step (by repeat (first | (with_reducible first | exact HB.out | apply below_alloc | apply pw_below_drewN | apply below_drew1 | refine below_set ?_ GE101.out) | exact HB.out)) hb)
      clear HO106
      clear BK101
      clear HB
      have HO106 := n0_
      have HO110 := n1_
      have BK101 := n2_
      have HB := n3_
      clear n0_ n1_ n2_ n3_
      (try clear hb)
      (try clear hb2)
      (try clear hk)
      (try clear hi)
      (try clear ho0)
      obtain ⟨Ao23, co23, eo23⟩ := Kd.S_slice HO106.out
      (first | subst eo23 | (injection eo23 with f1_ f2_ f3_; have f4_ := f1_.symm; have f5_ := f3_.symm; clear f1_ f2_ f3_; subst f4_; subst f5_))
      obtain ⟨Ao24, co24, eo24⟩ := Kd.R_slice HO110.out
      (first | subst eo24 | (injection eo24 with f1_ f2_ f3_; have f4_ := f1_.symm; have f5_ := f3_.symm; clear f1_ f2_ f3_; subst f4_; subst f5_))
      refine hK.out _ _ ⟨(blk_cell BK101.out 0).trans rfl, (blk_cell BK101.out 1).trans rfl⟩ (fun hHeld => ?_)
      clear hK K
      refine norm_ (a' := ?_) ?_ ?_
      rotate_left
      · show Act.put _ (some 28) _ = _
        simp only [Act.put, List.setIfInBounds_toArray, List.set_cons_zero, List.set_cons_succ, i64_w, i32_w]
        rfl
      refine one_ (i := 4) (N := some 29) #[true, true, true, true, true, false, false, false, false, false, false, false] rfl rfl (one_of HT_.out (by kernel_rfl)) (by decide) (fun K hK => ?_)
      (first | refine goes_ Try.func43 (by kernel_rfl) rfl #[.slice Ao23 t104.length co23, .agg #[.string t107, .slice Ao24 t108.length co24]] (by rfl) rfl rfl (by (try simp only [List.map_toArray, List.map_cons, List.map_nil]); first | done | rfl | (simp only [List.length_drop, List.length_take]; rfl)) ?_ | refine RPW.goesV_ Try.func43 (by kernel_rfl) rfl #[.slice Ao23 t104.length co23, .agg #[.string t107, .slice Ao24 t108.length co24]] (by rfl) rfl rfl rfl (by (try simp only [List.map_toArray, List.map_cons, List.map_nil]); first | done | rfl | (simp only [List.length_drop, List.length_take]; rfl)) ?_ | refine RPW.goesC_ Try.func43 (by kernel_rfl) rfl #[.slice Ao23 t104.length co23, .agg #[.string t107, .slice Ao24 t108.length co24]] (by rfl) rfl rfl rfl (by (try simp only [List.map_toArray, List.map_cons, List.map_nil]); first | done | rfl | (simp only [List.length_drop, List.length_take]; rfl)) ?_)
      with_reducible refine (spec_NearestFeature.calls k _ _ t104 t107 _ _ t108 t111 t112 t113 _ ?side1 ?side2 ?side3 ?side4 A15.out).mono ?_
      (case side1 => repeat (first | exact (Kd.S_reads' HO106.out).2.2 | (with_reducible refine Kd.C_alloc ?_ _) | (with_reducible refine Kd.C_drewN ?_ _) | (with_reducible refine Kd.C_drew ?_)))
      (case side2 => exact (Kd.S_reads' HO106.out).2.1)
      (case side3 => repeat (first | exact (Kd.R_reads' HO110.out).2.2 | (with_reducible refine Kd.C_alloc ?_ _) | (with_reducible refine Kd.C_drewN ?_ _) | (with_reducible refine Kd.C_drew ?_)))
      (case side4 => exact (Kd.R_reads' HO110.out).2.1)
      rintro e w25 ⟨rfl, hb⟩
      refine ⟨_, rfl, ?_⟩
      have n0_ := Aside0.mk (Kd.S_below (by (with_reducible repeat (first | apply Kd.S_alloc | apply Kd.S_drewN | apply Kd.S_drew)); exact HO106.out) hb)
      have n1_ := Aside0.mk (Kd.R_below (by (with_reducible repeat (first | apply Kd.R_alloc | apply Kd.R_drewN | apply Kd.R_drew)); exact HO110.out) hb)
      have n2_ := Aside0.mk (blk_below (g := gb101) (o := .cells #[.string a1_0, .slice A1_1 l1_1.length c1_1] 24 (0, 0)) (by (with_reducible repeat (first | refine blk_drewN ?_ _ | refine blk_drew ?_ | refine blk_alloc ?_ _)); exact BK101.out) hb)
      have n3_ := Aside0.mk (below_step (by repeat (first | (with_reducible first | exact HB.out | apply below_alloc | apply pw_below_drewN | apply below_drew1 | refine below_set ?_ GE101.out) | exact HB.out)) hb)
      clear HO106
      clear HO110
      clear BK101
      clear HB
      have HO106 := n0_
      have HO110 := n1_
      have BK101 := n2_
      have HB := n3_
      clear n0_ n1_ n2_ n3_
      (try clear hb)
      (try clear hb2)
      (try clear hk)
      (try clear hi)
      refine hK.out _ _ ⟨(blk_cell BK101.out 0).trans rfl, (blk_cell BK101.out 1).trans rfl⟩ (fun hHeld => ?_)
      clear hK K
      refine norm_ (a' := ?_) ?_ ?_
      rotate_left
      · show Act.put _ (some 29) _ = _
        simp only [Act.put, List.setIfInBounds_toArray, List.set_cons_zero, List.set_cons_succ, i64_w, i32_w]
        rfl
      refine pure_ (i := 5) (N := some 24) (v := ?_) (a' := ?_) #[true, true, true, true, true, true, false, false, false, false, false, false] rfl rfl (any_of HT_.out (by kernel_rfl)) (fun _ _ _ h => h) (Or.inl ⟨by rfl, ?_⟩) ?_ ?_
      rotate_left
      · intro w'
        go_simp
        with_reducible rfl
      rotate_left
      · simp only [Act.put, List.setIfInBounds_toArray, List.set_cons_zero, List.set_cons_succ, i64_w, i32_w]
        rfl
      refine pure_ (i := 6) (N := some 30) (v := ?_) (a' := ?_) #[true, true, true, true, true, true, true, false, false, false, false, false] rfl rfl (any_of HT_.out (by kernel_rfl)) (fun _ _ _ h => h) (Or.inl ⟨by rfl, ?_⟩) ?_ ?_
      rotate_left
      · intro w'
        go_simp
        with_reducible rfl
      rotate_left
      · simp only [Act.put, List.setIfInBounds_toArray, List.set_cons_zero, List.set_cons_succ, i64_w, i32_w]
        rfl
      refine pure_ (i := 7) (N := some 31) (v := ?_) (a' := ?_) #[true, true, true, true, true, true, true, true, false, false, false, false] rfl rfl (any_of HT_.out (by kernel_rfl)) (fun _ _ _ h => h) (Or.inl ⟨by rfl, ?_⟩) ?_ ?_
      rotate_left
      · intro w'
        go_simp
        with_reducible rfl
      rotate_left
      · simp only [Act.put, List.setIfInBounds_toArray, List.set_cons_zero, List.set_cons_succ, i64_w, i32_w]
        rfl
      refine pure_ (i := 8) (N := some 32) (v := ?_) (a' := ?_) #[true, true, true, true, true, true, true, true, true, false, false, false] rfl rfl (any_of HT_.out (by kernel_rfl)) (fun _ _ _ h => h) (Or.inl ⟨by rfl, ?_⟩) ?_ ?_
      rotate_left
      · intro w'
        go_simp
        with_reducible rfl
      rotate_left
      · simp only [Act.put, List.setIfInBounds_toArray, List.set_cons_zero, List.set_cons_succ, i64_w, i32_w]
        rfl
      refine pure_ (i := 9) (N := some 6) (v := ?_) (a' := ?_) #[true, true, true, true, true, true, true, true, true, true, false, false] rfl rfl (any_of HT_.out (by kernel_rfl)) (fun _ _ _ h => h) (Or.inl ⟨by rfl, ?_⟩) ?_ ?_
      rotate_left
      · intro w'
        go_simp
        with_reducible rfl
      rotate_left
      · simp only [Act.put, List.setIfInBounds_toArray, List.set_cons_zero, List.set_cons_succ, i64_w, i32_w]
        rfl
      refine pure_ (i := 10) (N := some 7) (v := ?_) (a' := ?_) #[true, true, true, true, true, true, true, true, true, true, true, false] rfl rfl (any_of HT_.out (by kernel_rfl)) (fun _ _ _ h => h) (Or.inl ⟨by rfl, ?_⟩) ?_ ?_
      rotate_left
      · intro w'
        go_simp
        with_reducible rfl
      rotate_left
      · simp only [Act.put, List.setIfInBounds_toArray, List.set_cons_zero, List.set_cons_succ, i64_w, i32_w]
        rfl
      refine pure_ (i := 11) (N := some 8) (v := ?_) (a' := ?_) #[true, true, true, true, true, true, true, true, true, true, true, true] rfl rfl (any_of HT_.out (by kernel_rfl)) (fun _ _ _ h => h) (Or.inl ⟨by rfl, ?_⟩) ?_ ?_
      rotate_left
      · intro w'
        go_simp
        with_reducible rfl
      rotate_left
      · simp only [Act.put, List.setIfInBounds_toArray, List.set_cons_zero, List.set_cons_succ, i64_w, i32_w]
        rfl
      refine done_ (done_of HT_.out (by kernel_rfl)) ?_
      go_upto_region 12 with (first | ((with_reducible refine gate_callee (f := 19) rfl ?_); refine goesL_ (some 34) rfl rfl Try.func19 (by kernel_rfl) rfl #[.slice A0 l0.length c0] rfl (by (try simp only [List.map_toArray, List.map_cons, List.map_nil]); first | done | rfl | (simp only [List.length_drop, List.length_take]; rfl)) ?_; (with_reducible refine (laws_toFeatureS.calls k _ _ l0 t114 _ ?side1 ?side2 A16.out).mono ?_); (case side1 => repeat (first | exact (Kd.C_below HR0.out HB.out) | (with_reducible refine Kd.C_alloc ?_ _) | (with_reducible refine Kd.C_drewN ?_ _) | (with_reducible refine Kd.C_drew ?_))); (case side2 => exact HC0.out); rintro e w26 ⟨v115, rfl, ho0, hb⟩; refine ⟨_, rfl, ?_⟩; have n0_ := Aside0.mk (Kd.S_elder' (by (with_reducible repeat (first | apply Kd.S_alloc | apply Kd.S_drewN | apply Kd.S_drew)); exact HO106.out) (Kd.S_base ho0) hb); have n1_ := Aside0.mk (Kd.R_below (by (with_reducible repeat (first | apply Kd.R_alloc | apply Kd.R_drewN | apply Kd.R_drew)); exact HO110.out) hb); have n2_ := Aside0.mk (Kd.S_lower (Kd.S_new' (Kd.S_new' ho0 (Kd.S_lt (by (with_reducible repeat (first | apply Kd.S_alloc | apply Kd.S_drewN | apply Kd.S_drew)); exact HO106.out))) (Kd.R_lt (by (with_reducible repeat (first | apply Kd.R_alloc | apply Kd.R_drewN | apply Kd.R_drew)); exact HO110.out))) (below_size (by repeat (first | (with_reducible first | exact HB.out | apply below_alloc | apply pw_below_drewN | apply below_drew1 | refine below_set ?_ GE101.out) | exact HB.out)))); have n3_ := Aside0.mk (blk_below (g := gb101) (o := .cells #[.string a1_0, .slice A1_1 l1_1.length c1_1] 24 (0, 0)) (by (with_reducible repeat (first | refine blk_drewN ?_ _ | refine blk_drew ?_ | refine blk_alloc ?_ _)); exact BK101.out) hb); have n4_ := Aside0.mk (below_step (by repeat (first | (with_reducible first | exact HB.out | apply below_alloc | apply pw_below_drewN | apply below_drew1 | refine below_set ?_ GE101.out) | exact HB.out)) hb); clear HO106; clear HO110; clear BK101; clear HB; have HO106 := n0_; have HO110 := n1_; have HO116 := n2_; have BK101 := n3_; have HB := n4_; clear n0_ n1_ n2_ n3_ n4_; (try clear hb); (try clear hb2); (try clear hk); (try clear hi); (try clear ho0); have hcz27_0 : w26.cell? ⟨gb101, 0, none⟩ = some (.string a1_0) := (blk_cell BK101.out 0).trans rfl; have hcz27_1 : w26.cell? ⟨gb101, 1, none⟩ = some (.slice A1_1 l1_1.length c1_1) := (blk_cell BK101.out 1).trans rfl; have hfz27_0 := blk_frozen BK101.out 0; have hfz27_1 := blk_frozen BK101.out 1) | ((with_reducible refine gate_callee (f := 14) rfl ?_); refine goesL_ (some 36) rfl rfl Try.func14 (by kernel_rfl) rfl #[.agg #[.string a1_0, .slice A1_1 l1_1.length c1_1]] rfl (by (try simp only [List.map_toArray, List.map_cons, List.map_nil]); first | done | rfl | (simp only [List.length_drop, List.length_take]; rfl)) ?_; (with_reducible refine (laws_toFeature.calls k a1_0 _ _ l1_1 t117 t118 _ ?side1 ?side2 A17.out).mono ?_); (case side1 => repeat (first | exact (Kd.C_below HR1_1.out HB.out) | (with_reducible refine Kd.C_alloc ?_ _) | (with_reducible refine Kd.C_drewN ?_ _) | (with_reducible refine Kd.C_drew ?_))); (case side2 => exact HC1_1.out); rintro e w28 ⟨v119, rfl, ho0, hb⟩; refine ⟨_, rfl, ?_⟩; have n0_ := Aside0.mk (Kd.S_elder' (by (with_reducible repeat (first | apply Kd.S_alloc | apply Kd.S_drewN | apply Kd.S_drew)); exact HO106.out) (Kd.R_base ho0) hb); have n1_ := Aside0.mk (Kd.R_elder' (by (with_reducible repeat (first | apply Kd.R_alloc | apply Kd.R_drewN | apply Kd.R_drew)); exact HO110.out) (Kd.R_base ho0) hb); have n2_ := Aside0.mk (Kd.S_elder' (by (with_reducible repeat (first | apply Kd.S_alloc | apply Kd.S_drewN | apply Kd.S_drew)); exact HO116.out) (Kd.R_base ho0) hb); have n3_ := Aside0.mk (Kd.R_lower (Kd.R_new' ho0 (Kd.R_lt (by (with_reducible repeat (first | apply Kd.R_alloc | apply Kd.R_drewN | apply Kd.R_drew)); exact HO110.out))) (below_size (by repeat (first | (with_reducible first | exact HB.out | apply below_alloc | apply pw_below_drewN | apply below_drew1 | refine below_set ?_ GE101.out) | exact HB.out)))); have n4_ := Aside0.mk (blk_below (g := gb101) (o := .cells #[.string a1_0, .slice A1_1 l1_1.length c1_1] 24 (0, 0)) (by (with_reducible repeat (first | refine blk_drewN ?_ _ | refine blk_drew ?_ | refine blk_alloc ?_ _)); exact BK101.out) hb); have n5_ := Aside0.mk (below_step (by repeat (first | (with_reducible first | exact HB.out | apply below_alloc | apply pw_below_drewN | apply below_drew1 | refine below_set ?_ GE101.out) | exact HB.out)) hb); clear HO106; clear HO110; clear HO116; clear BK101; clear HB; have HO106 := n0_; have HO110 := n1_; have HO116 := n2_; have HO120 := n3_; have BK101 := n4_; have HB := n5_; clear n0_ n1_ n2_ n3_ n4_ n5_; (try clear hb); (try clear hb2); (try clear hk); (try clear hi); (try clear ho0)) | ((with_reducible refine gate_dst (N := 10) rfl ?_); refine box_event ?hg (N := 10) ?hd (cs := #[.string (⟨#[]⟩ : ByteArray), .slice none 0 0]) (t := 28) ?hr ?_; (case hd => rfl); (case hg => rfl); (case hr => first | (go_simp; done) | (go_simp; rfl)); intro gb121 hg w29 hbox hb; have n0_ := Aside0.mk (Kd.S_below (Kd.S_elderB (by (with_reducible repeat (first | apply Kd.S_alloc | apply Kd.S_drewN | apply Kd.S_drew)); exact HO106.out) gb121 (Nat.le_of_eq hg.symm)) hb); have n1_ := Aside0.mk (Kd.R_below (by (with_reducible repeat (first | apply Kd.R_alloc | apply Kd.R_drewN | apply Kd.R_drew)); exact HO110.out) hb); have n2_ := Aside0.mk (Kd.S_below (Kd.S_elderB (by (with_reducible repeat (first | apply Kd.S_alloc | apply Kd.S_drewN | apply Kd.S_drew)); exact HO116.out) gb121 (Nat.le_of_eq hg.symm)) hb); have n3_ := Aside0.mk (Kd.R_below (by (with_reducible repeat (first | apply Kd.R_alloc | apply Kd.R_drewN | apply Kd.R_drew)); exact HO120.out) hb); have n4_ := Aside0.mk (blk_below (g := gb101) (o := .cells #[.string a1_0, .slice A1_1 l1_1.length c1_1] 24 (0, 0)) (by (with_reducible repeat (first | refine blk_drewN ?_ _ | refine blk_drew ?_ | refine blk_alloc ?_ _)); exact BK101.out) hb); have n5_ := Aside0.mk (below_step (by repeat (first | (with_reducible first | exact HB.out | apply below_alloc | apply pw_below_drewN | apply below_drew1 | refine below_set ?_ GE101.out) | exact HB.out)) hb); have n6_ := Aside0.mk (hbox); have n7_ := Aside0.mk ((by rw [hg]; exact (below_size (by repeat (first | (with_reducible first | exact HB.out | apply below_alloc | apply pw_below_drewN | apply below_drew1 | refine below_set ?_ GE101.out) | exact HB.out))) : w.heap.size ≤ gb121)); have n8_ := Aside0.mk ((by rw [hg]; exact (below_size (by repeat (first | (with_reducible first | exact HB.out | apply below_alloc | apply pw_below_drewN | apply below_drew1 | refine below_set ?_ GE101.out) | exact HB.out))) : w.heap.size ≤ gb121)); have n9_ := Aside0.mk ((by rw [hg]; exact Nat.ne_of_lt (blk_lt (g := gb101) (o := .cells #[.string a1_0, .slice A1_1 l1_1.length c1_1] 24 (0, 0)) (by (with_reducible repeat (first | refine blk_drewN ?_ _ | refine blk_drew ?_ | refine blk_alloc ?_ _)); exact BK101.out)) : gb101 ≠ gb121)); have n10_ := Aside0.mk ((by rw [hg]; exact Nat.ne_of_gt (blk_lt (g := gb101) (o := .cells #[.string a1_0, .slice A1_1 l1_1.length c1_1] 24 (0, 0)) (by (with_reducible repeat (first | refine blk_drewN ?_ _ | refine blk_drew ?_ | refine blk_alloc ?_ _)); exact BK101.out)) : gb121 ≠ gb101)); clear HO106; clear HO110; clear HO116; clear HO120; clear BK101; clear HB; have HO106 := n0_; have HO110 := n1_; have HO116 := n2_; have HO120 := n3_; have BK101 := n4_; have HB := n5_; have BK121 := n6_; have GW121 := n7_; have GE121 := n8_; have NB101_121 := n9_; have NB121_101 := n10_; clear n0_ n1_ n2_ n3_ n4_ n5_ n6_ n7_ n8_ n9_ n10_; clear hb hbox hg; have hnb30 := NB121_101.out; have hnc30 := NB101_121.out; have hcz31_0 : w29.cell? ⟨gb121, 0, none⟩ = some (.string (⟨#[]⟩ : ByteArray)) := (blk_cell BK121.out 0).trans rfl; have hcz31_1 : w29.cell? ⟨gb121, 1, none⟩ = some (.slice none 0 0) := (blk_cell BK121.out 1).trans rfl; have hfz31_0 := blk_frozen BK121.out 0; have hfz31_1 := blk_frozen BK121.out 1; obtain ⟨Ao32, co32, eo32⟩ := Kd.R_slice HO120.out; subst eo32; obtain ⟨Ao33, co33, eo33⟩ := Kd.S_slice HO116.out; subst eo33) | ((with_reducible refine gate_callee (f := 41) rfl ?_); refine goesL_ (some 40) rfl rfl Try.func41 (by kernel_rfl) rfl #[.slice Ao33 t114.length co33, .agg #[.string t117, .slice Ao32 t118.length co32]] rfl (by (try simp only [List.map_toArray, List.map_cons, List.map_nil]); first | done | rfl | (simp only [List.length_drop, List.length_take]; rfl)) ?_; (with_reducible refine (impl_NearestFeature.calls k _ _ t114 t117 _ _ t118 t122 t123 t124 _ ?side1 ?side2 ?side3 ?side4 A18.out).mono ?_); (case side1 => refine (Kd.S_reads' (e := 28) (base := w.heap.size) (ok := fun k_ => ((((True ∧ some k_ ≠ (.slice Ao23 t104.length co23 : Value).ownBlock) ∧ some k_ ≠ (.slice Ao24 t108.length co24 : Value).ownBlock) ∧ some k_ ≠ (.slice Ao32 t118.length co32 : Value).ownBlock) ∧ k_ ≠ gb121)) (n := t114.length) (c := co33) ?_).2.2; exact (by (with_reducible repeat (first | apply Kd.S_alloc | apply Kd.S_drewN | apply Kd.S_drew)); exact (Kd.S_mono (Kd.S_far (p := ⟨gb121, 1, none⟩) (Kd.S_far (p := ⟨gb121, 0, none⟩) (Kd.S_mono HO116.out (fun k_ hk => (⟨hk, hk.2⟩ : _ ∧ k_ ≠ gb121))) (fun _ hk => hk.2) (.string t117)) (fun _ hk => hk.2) (.slice Ao32 t118.length co32)) (fun _ h_ => h_.1)))); (case side2 => exact (Kd.S_reads' HO116.out).2.1); (case side3 => refine (Kd.R_reads' (e := 2) (base := w.heap.size) (ok := fun k_ => (True ∧ some k_ ≠ (.slice Ao24 t108.length co24 : Value).ownBlock)) (n := t118.length) (c := co32) ?_).2.2; exact (by (with_reducible repeat (first | apply Kd.R_alloc | apply Kd.R_drewN | apply Kd.R_drew)); exact (Kd.R_mono (Kd.R_far (p := ⟨gb121, 1, none⟩) (Kd.R_far (p := ⟨gb121, 0, none⟩) (Kd.R_types HO120.out BK121.out (by decide)) (fun _ hk => hk.2) (.string t117)) (fun _ hk => hk.2) (.slice Ao32 t118.length co32)) (fun _ h_ => h_.1)))); (case side4 => exact (Kd.R_reads' HO120.out).2.1); rintro e w34 ⟨rfl, hb⟩; refine ⟨_, rfl, ?_⟩; have n0_ := Aside0.mk (Kd.S_below (by (with_reducible repeat (first | apply Kd.S_alloc | apply Kd.S_drewN | apply Kd.S_drew)); exact (Kd.S_mono (Kd.S_far (p := ⟨gb121, 1, none⟩) (Kd.S_far (p := ⟨gb121, 0, none⟩) (Kd.S_mono HO106.out (fun k_ hk => (⟨hk, hk.2⟩ : _ ∧ k_ ≠ gb121))) (fun _ hk => hk.2) (.string t117)) (fun _ hk => hk.2) (.slice Ao32 t118.length co32)) (fun _ h_ => h_.1))) hb); have n1_ := Aside0.mk (Kd.R_below (by (with_reducible repeat (first | apply Kd.R_alloc | apply Kd.R_drewN | apply Kd.R_drew)); exact (Kd.R_mono (Kd.R_far (p := ⟨gb121, 1, none⟩) (Kd.R_far (p := ⟨gb121, 0, none⟩) (Kd.R_types HO110.out BK121.out (by decide)) (fun _ hk => hk.2) (.string t117)) (fun _ hk => hk.2) (.slice Ao32 t118.length co32)) (fun _ h_ => h_.1))) hb); have n2_ := Aside0.mk (Kd.S_below (by (with_reducible repeat (first | apply Kd.S_alloc | apply Kd.S_drewN | apply Kd.S_drew)); exact (Kd.S_mono (Kd.S_far (p := ⟨gb121, 1, none⟩) (Kd.S_far (p := ⟨gb121, 0, none⟩) (Kd.S_mono HO116.out (fun k_ hk => (⟨hk, hk.2⟩ : _ ∧ k_ ≠ gb121))) (fun _ hk => hk.2) (.string t117)) (fun _ hk => hk.2) (.slice Ao32 t118.length co32)) (fun _ h_ => h_.1))) hb); have n3_ := Aside0.mk (Kd.R_below (by (with_reducible repeat (first | apply Kd.R_alloc | apply Kd.R_drewN | apply Kd.R_drew)); exact (Kd.R_mono (Kd.R_far (p := ⟨gb121, 1, none⟩) (Kd.R_far (p := ⟨gb121, 0, none⟩) (Kd.R_types HO120.out BK121.out (by decide)) (fun _ hk => hk.2) (.string t117)) (fun _ hk => hk.2) (.slice Ao32 t118.length co32)) (fun _ h_ => h_.1))) hb); have n4_ := Aside0.mk (blk_below (g := gb101) (o := .cells #[.string a1_0, .slice A1_1 l1_1.length c1_1] 24 (0, 0)) (by (with_reducible repeat (first | refine blk_drewN ?_ _ | refine blk_drew ?_ | refine blk_alloc ?_ _)); refine blk_far ?_ NB101_121.out _; (with_reducible repeat (first | refine blk_drewN ?_ _ | refine blk_drew ?_ | refine blk_alloc ?_ _)); refine blk_far ?_ NB101_121.out _; (with_reducible repeat (first | refine blk_drewN ?_ _ | refine blk_drew ?_ | refine blk_alloc ?_ _)); exact BK101.out) hb); have n5_ := Aside0.mk (blk_below (g := gb121) (o := .cells #[.string t117, .slice Ao32 t118.length co32] 28 (0, 0)) (by (with_reducible repeat (first | refine blk_drewN ?_ _ | refine blk_drew ?_ | refine blk_alloc ?_ _)); refine blk_put (cs := #[.string t117, .slice none 0 0]) ?_ 1 _ rfl; (with_reducible repeat (first | refine blk_drewN ?_ _ | refine blk_drew ?_ | refine blk_alloc ?_ _)); refine blk_put (cs := #[.string (⟨#[]⟩ : ByteArray), .slice none 0 0]) ?_ 0 _ rfl; (with_reducible repeat (first | refine blk_drewN ?_ _ | refine blk_drew ?_ | refine blk_alloc ?_ _)); exact BK121.out) hb); have n6_ := Aside0.mk (below_step (by repeat (first | (with_reducible first | exact HB.out | apply below_alloc | apply pw_below_drewN | apply below_drew1 | refine below_set ?_ GE101.out | refine below_set ?_ GE121.out) | exact HB.out)) hb); clear HO106; clear HO110; clear HO116; clear HO120; clear BK101; clear BK121; clear HB; have HO106 := n0_; have HO110 := n1_; have HO116 := n2_; have HO120 := n3_; have BK101 := n4_; have BK121 := n5_; have HB := n6_; clear n0_ n1_ n2_ n3_ n4_ n5_ n6_; (try clear hb); (try clear hb2); (try clear hk); (try clear hi)))
      (try simp only [Act.put, List.setIfInBounds_toArray, List.set_cons_zero, List.set_cons_succ])
      go_cut [56] (fun v56 wc => ∃ (kq : Nat) (x56_18 : Bool), v56 = .bool x56_18 ∧ Aside0 (laws_FnExactNearestFeature.j0 kq l0 t114 x56_18 a1_0 l1_1 t117 t118 = some r) ∧ Aside0 (kq ≤ k) ∧ Aside0 (Kd.S k28 28 wc w.heap.size (fun k_ => some k_ ≠ ((.slice Ao32 t118.length co32) : Value).ownBlock ∧ k_ ≠ gb121) (.slice Ao33 t114.length co33) t114) ∧ Aside0 (Kd.R (Kd.int .i64) 2 wc w.heap.size (fun _ => True) (.slice Ao32 t118.length co32) t118) ∧ Aside0 (wc.heap[gb101]? = some (.cells #[.string a1_0, (.slice A1_1 l1_1.length c1_1)] 24 (0, 0))) ∧ Aside0 (wc.heap[gb121]? = some (.cells #[.string t117, (.slice Ao32 t118.length co32)] 28 (0, 0))) ∧ Aside0 (Below w.heap.size w wc))
      case first =>
        have H := HC19.out
        clear HC19
        by_cases c35 : t122 = t111
        · rw [if_pos c35] at H
          have c35b0 : (t122 == t111) = true := beq_iff_eq.mpr c35
          have c35b1 : (t122 != t111) = false := bne_eq_false_iff_eq.mpr c35
          clear c35
          (first | rw [c35b0] | (simp only [i64_w, i32_w]; rw [c35b0]) | (simp only [c35b2, Bool.not_true, Bool.not_false]) | (simp only [c35b1, Bool.not_true, Bool.not_false]) | (simp only [c35b0, Bool.not_true, Bool.not_false]) | skip)
          by_cases c36 : t123 = t112
          · rw [if_pos c36] at H
            have c36b0 : (t123 == t112) = true := beq_iff_eq.mpr c36
            have c36b1 : (t123 != t112) = false := bne_eq_false_iff_eq.mpr c36
            clear c36
            have H' := Aside0.mk H
            clear H
            go_wp2
            go_meet
            case rel => exact ⟨_, ((t124 != t113)), (by first | rfl | (simp; done) | (simp [*]; done)), H', ⟨by first | omega | exact Nat.le_refl _⟩, ⟨by (with_reducible repeat (first | apply Kd.S_alloc | apply Kd.S_drewN | apply Kd.S_drew)); exact Kd.S_mono HO116.out (fun _ hk => ⟨hk.1.2, hk.2⟩)⟩, ⟨by (with_reducible repeat (first | apply Kd.R_alloc | apply Kd.R_drewN | apply Kd.R_drew)); exact Kd.R_mono HO120.out (fun _ hk => trivial)⟩, ⟨by (with_reducible repeat (first | refine blk_drewN ?_ _ | refine blk_drew ?_ | refine blk_alloc ?_ _)); exact BK101.out⟩, ⟨by (with_reducible repeat (first | refine blk_drewN ?_ _ | refine blk_drew ?_ | refine blk_alloc ?_ _)); exact BK121.out⟩, ⟨by repeat (first | (with_reducible first | exact HB.out | apply below_alloc | apply pw_below_drewN | apply below_drew1 | refine below_set ?_ GE101.out | refine below_set ?_ GE121.out) | exact HB.out)⟩⟩
          · rw [if_neg c36] at H
            have c36b0 : (t123 == t112) = false := beq_eq_false_iff_ne.mpr c36
            have c36b1 : (t123 != t112) = true := bne_iff_ne.mpr c36
            have H' := Aside0.mk H
            clear H
            go_wp2
            go_meet
            case rel => exact ⟨_, (true), (by first | rfl | (simp; done) | (simp [*]; done)), H', ⟨by first | omega | exact Nat.le_refl _⟩, ⟨by (with_reducible repeat (first | apply Kd.S_alloc | apply Kd.S_drewN | apply Kd.S_drew)); exact Kd.S_mono HO116.out (fun _ hk => ⟨hk.1.2, hk.2⟩)⟩, ⟨by (with_reducible repeat (first | apply Kd.R_alloc | apply Kd.R_drewN | apply Kd.R_drew)); exact Kd.R_mono HO120.out (fun _ hk => trivial)⟩, ⟨by (with_reducible repeat (first | refine blk_drewN ?_ _ | refine blk_drew ?_ | refine blk_alloc ?_ _)); exact BK101.out⟩, ⟨by (with_reducible repeat (first | refine blk_drewN ?_ _ | refine blk_drew ?_ | refine blk_alloc ?_ _)); exact BK121.out⟩, ⟨by repeat (first | (with_reducible first | exact HB.out | apply below_alloc | apply pw_below_drewN | apply below_drew1 | refine below_set ?_ GE101.out | refine below_set ?_ GE121.out) | exact HB.out)⟩⟩
        · rw [if_neg c35] at H
          have c35b0 : (t122 == t111) = false := beq_eq_false_iff_ne.mpr c35
          have c35b1 : (t122 != t111) = true := bne_iff_ne.mpr c35
          (first | rw [c35b0] | (simp only [i64_w, i32_w]; rw [c35b0]) | (simp only [c35b2, Bool.not_true, Bool.not_false]) | (simp only [c35b1, Bool.not_true, Bool.not_false]) | (simp only [c35b0, Bool.not_true, Bool.not_false]) | skip)
          have H' := Aside0.mk H
          clear H
          go_wp2
          go_meet
          case rel => exact ⟨_, (true), (by first | rfl | (simp; done) | (simp [*]; done)), H', ⟨by first | omega | exact Nat.le_refl _⟩, ⟨by (with_reducible repeat (first | apply Kd.S_alloc | apply Kd.S_drewN | apply Kd.S_drew)); exact Kd.S_mono HO116.out (fun _ hk => ⟨hk.1.2, hk.2⟩)⟩, ⟨by (with_reducible repeat (first | apply Kd.R_alloc | apply Kd.R_drewN | apply Kd.R_drew)); exact Kd.R_mono HO120.out (fun _ hk => trivial)⟩, ⟨by (with_reducible repeat (first | refine blk_drewN ?_ _ | refine blk_drew ?_ | refine blk_alloc ?_ _)); exact BK101.out⟩, ⟨by (with_reducible repeat (first | refine blk_drewN ?_ _ | refine blk_drew ?_ | refine blk_alloc ?_ _)); exact BK121.out⟩, ⟨by repeat (first | (with_reducible first | exact HB.out | apply below_alloc | apply pw_below_drewN | apply below_drew1 | refine below_set ?_ GE101.out | refine below_set ?_ GE121.out) | exact HB.out)⟩⟩
      case rest =>
        clear HC19
        try clear c1
        try clear p2
        try clear c3
        try clear c4
        try clear c7
        try clear c7b0
        try clear c7b1
        try clear c7b2
        try clear c9
        try clear c12
        try clear c12b0
        try clear c12b1
        try clear c12b2
        try clear c14
        try clear c17
        try clear c19
        try clear c30
        try clear c35
        try clear c35b0
        try clear c35b1
        try clear c35b2
        try clear c36
        try clear c36b0
        try clear c36b1
        try clear hcz10_0
        try clear hcz10_1
        try clear hcz27_0
        try clear hcz27_1
        try clear hcz31_0
        try clear hcz31_1
        try clear hfz10_0
        try clear hfz10_1
        try clear hfz27_0
        try clear hfz27_1
        try clear hfz31_0
        try clear hfz31_1
        obtain ⟨kq, x56_18, rfl, HA, HJ18, HO_9, HO_122001, BK101, BK121, HB⟩ := hcut
        cases kq with
        | zero => exact absurd HA.out (by simp [laws_FnExactNearestFeature.j0])
        | succ kj18 =>
          have H := HA.out
          clear HA
          simp only [laws_FnExactNearestFeature.j0] at H
          by_cases c37 : x56_18 = true
          · subst c37
            have H1 : (some false) = some r := by rw [if_pos rfl] at H; exact H
            clear H
            have H := H1
            clear H1
            obtain rfl := Option.some.inj H
            go_wp2
            go_ret
            exact ⟨by first | rfl | (simp [errW_none, errW_some] <;> rfl) | (simp [*, errW_none, errW_some] <;> rfl), by repeat (first | (with_reducible first | exact HB.out | apply below_alloc | apply pw_below_drewN | apply below_drew1 | refine below_set ?_ GE101.out | refine below_set ?_ GE121.out) | exact HB.out)⟩
          · replace c37 := Bool.eq_false_iff.mpr c37
            subst c37
            have H1 : ((laws_toFeatureS.f kj18 l0).bind fun t125 => ((laws_eqFeatureS.f kj18 t114 t125).bind fun t128 => (if t128 = true then ((laws_toFeature.f kj18 a1_0 l1_1).bind fun bt129 => ((laws_eqFeature.f kj18 t117 t118 bt129.1 bt129.2).bind fun t133 => (if t133 = true then (some true) else (some false)))) else (some false)))) = some r := by rw [if_neg (show ¬ (false = true) by decide)] at H; exact H
            clear H
            have H := H1
            clear H1
            replace H := Option.bind_eq_some_iff.mp H
            obtain ⟨t125, A380, H⟩ := H
            replace H : ((laws_eqFeatureS.f kj18 t114 t125).bind fun t128 => (if t128 = true then ((laws_toFeature.f kj18 a1_0 l1_1).bind fun bt129 => ((laws_eqFeature.f kj18 t117 t118 bt129.1 bt129.2).bind fun t133 => (if t133 = true then (some true) else (some false)))) else (some false))) = some r := H
            have A38 := Aside0.mk A380
            clear A380
            replace H := Option.bind_eq_some_iff.mp H
            obtain ⟨t128, A390, H⟩ := H
            replace H : (if t128 = true then ((laws_toFeature.f kj18 a1_0 l1_1).bind fun bt129 => ((laws_eqFeature.f kj18 t117 t118 bt129.1 bt129.2).bind fun t133 => (if t133 = true then (some true) else (some false)))) else (some false)) = some r := H
            have A39 := Aside0.mk A390
            clear A390
            have HC40 := Aside0.mk H
            clear H
            go_upto_if 61 with (first | ((with_reducible refine gate_callee (f := 19) rfl ?_); refine goesL_ (some 59) rfl rfl Try.func19 (by kernel_rfl) rfl #[.slice A0 l0.length c0] rfl (by (try simp only [List.map_toArray, List.map_cons, List.map_nil]); first | done | rfl | (simp only [List.length_drop, List.length_take]; rfl)) ?_; (with_reducible refine (laws_toFeatureS.calls kj18 _ _ l0 t125 _ ?side1 ?side2 A38.out).mono ?_); (case side1 => repeat (first | exact (Kd.C_below HR0.out (by repeat (first | (with_reducible first | exact HB.out | apply below_alloc | apply pw_below_drewN | apply below_drew1 | refine below_set ?_ GE101.out | refine below_set ?_ GE121.out) | exact HB.out))) | (with_reducible refine Kd.C_alloc ?_ _) | (with_reducible refine Kd.C_drewN ?_ _) | (with_reducible refine Kd.C_drew ?_))); (case side2 => exact HC0.out); rintro e w41 ⟨v126, rfl, ho0, hb⟩; refine ⟨_, rfl, ?_⟩; have n0_ := Aside0.mk (Kd.S_elder' (by (with_reducible repeat (first | apply Kd.S_alloc | apply Kd.S_drewN | apply Kd.S_drew)); exact HO_9.out) (Kd.S_base ho0) hb); have n1_ := Aside0.mk (Kd.R_below (by (with_reducible repeat (first | apply Kd.R_alloc | apply Kd.R_drewN | apply Kd.R_drew)); exact HO_122001.out) hb); have n2_ := Aside0.mk (Kd.S_lower (Kd.S_newB (Kd.S_new' (Kd.S_new' ho0 (Kd.S_lt (by (with_reducible repeat (first | apply Kd.S_alloc | apply Kd.S_drewN | apply Kd.S_drew)); exact HO_9.out))) (Kd.R_lt (by (with_reducible repeat (first | apply Kd.R_alloc | apply Kd.R_drewN | apply Kd.R_drew)); exact HO_122001.out))) (g := gb121) (o := .cells #[.string t117, .slice Ao32 t118.length co32] 28 (0, 0)) (by (with_reducible repeat (first | refine blk_drewN ?_ _ | refine blk_drew ?_ | refine blk_alloc ?_ _)); exact BK121.out)) (below_size (by repeat (first | (with_reducible first | exact HB.out | apply below_alloc | apply pw_below_drewN | apply below_drew1 | refine below_set ?_ GE101.out | refine below_set ?_ GE121.out) | exact HB.out)))); have n3_ := Aside0.mk (blk_below (g := gb101) (o := .cells #[.string a1_0, .slice A1_1 l1_1.length c1_1] 24 (0, 0)) (by (with_reducible repeat (first | refine blk_drewN ?_ _ | refine blk_drew ?_ | refine blk_alloc ?_ _)); exact BK101.out) hb); have n4_ := Aside0.mk (blk_below (g := gb121) (o := .cells #[.string t117, .slice Ao32 t118.length co32] 28 (0, 0)) (by (with_reducible repeat (first | refine blk_drewN ?_ _ | refine blk_drew ?_ | refine blk_alloc ?_ _)); exact BK121.out) hb); have n5_ := Aside0.mk (below_step (by repeat (first | (with_reducible first | exact HB.out | apply below_alloc | apply pw_below_drewN | apply below_drew1 | refine below_set ?_ GE101.out | refine below_set ?_ GE121.out) | exact HB.out)) hb); clear HO_9; clear HO_122001; clear BK101; clear BK121; clear HB; have HO_9 := n0_; have HO_122001 := n1_; have HO127 := n2_; have BK101 := n3_; have BK121 := n4_; have HB := n5_; clear n0_ n1_ n2_ n3_ n4_ n5_; (try clear hb); (try clear hb2); (try clear hk); (try clear hi); (try clear ho0); obtain ⟨Ao42, co42, eo42⟩ := Kd.S_slice HO127.out; subst eo42) | ((with_reducible refine gate_callee (f := 21) rfl ?_); refine goesL_ (some 60) rfl rfl Try.func21 (by kernel_rfl) rfl #[.slice Ao33 t114.length co33, .slice Ao42 t125.length co42] rfl (by (try simp only [List.map_toArray, List.map_cons, List.map_nil]); first | done | rfl | (simp only [List.length_drop, List.length_take]; rfl)) ?_; (with_reducible refine (laws_eqFeatureS.calls kj18 _ _ t114 _ _ t125 t128 _ ?side1 ?side2 ?side3 ?side4 A39.out).mono ?_); (case side1 => repeat (first | exact (Kd.S_reads' HO_9.out).2.2 | (with_reducible refine Kd.C_alloc ?_ _) | (with_reducible refine Kd.C_drewN ?_ _) | (with_reducible refine Kd.C_drew ?_))); (case side2 => exact (Kd.S_reads' HO_9.out).2.1); (case side3 => repeat (first | exact (Kd.S_reads' HO127.out).2.2 | (with_reducible refine Kd.C_alloc ?_ _) | (with_reducible refine Kd.C_drewN ?_ _) | (with_reducible refine Kd.C_drew ?_))); (case side4 => exact (Kd.S_reads' HO127.out).2.1); rintro e w43 ⟨rfl, hb⟩; refine ⟨_, rfl, ?_⟩; have n0_ := Aside0.mk (Kd.S_below (by (with_reducible repeat (first | apply Kd.S_alloc | apply Kd.S_drewN | apply Kd.S_drew)); exact HO_9.out) hb); have n1_ := Aside0.mk (Kd.R_below (by (with_reducible repeat (first | apply Kd.R_alloc | apply Kd.R_drewN | apply Kd.R_drew)); exact HO_122001.out) hb); have n2_ := Aside0.mk (Kd.S_below (by (with_reducible repeat (first | apply Kd.S_alloc | apply Kd.S_drewN | apply Kd.S_drew)); exact HO127.out) hb); have n3_ := Aside0.mk (blk_below (g := gb101) (o := .cells #[.string a1_0, .slice A1_1 l1_1.length c1_1] 24 (0, 0)) (by (with_reducible repeat (first | refine blk_drewN ?_ _ | refine blk_drew ?_ | refine blk_alloc ?_ _)); exact BK101.out) hb); have n4_ := Aside0.mk (blk_below (g := gb121) (o := .cells #[.string t117, .slice Ao32 t118.length co32] 28 (0, 0)) (by (with_reducible repeat (first | refine blk_drewN ?_ _ | refine blk_drew ?_ | refine blk_alloc ?_ _)); exact BK121.out) hb); have n5_ := Aside0.mk (below_step (by repeat (first | (with_reducible first | exact HB.out | apply below_alloc | apply pw_below_drewN | apply below_drew1 | refine below_set ?_ GE101.out | refine below_set ?_ GE121.out) | exact HB.out)) hb); clear HO_9; clear HO_122001; clear HO127; clear BK101; clear BK121; clear HB; have HO_9 := n0_; have HO_122001 := n1_; have HO127 := n2_; have BK101 := n3_; have BK121 := n4_; have HB := n5_; clear n0_ n1_ n2_ n3_ n4_ n5_; (try clear hb); (try clear hb2); (try clear hk); (try clear hi)))
            (try simp only [Act.put, List.setIfInBounds_toArray, List.set_cons_zero, List.set_cons_succ])
            have H := HC40.out
            clear HC40
            by_cases c44 : t128 = true
            · subst c44
              have H1 : ((laws_toFeature.f kj18 a1_0 l1_1).bind fun bt129 => ((laws_eqFeature.f kj18 t117 t118 bt129.1 bt129.2).bind fun t133 => (if t133 = true then (some true) else (some false)))) = some r := by rw [if_pos rfl] at H; exact H
              clear H
              have H := H1
              clear H1
              replace H := Option.bind_eq_some_iff.mp H
              obtain ⟨⟨t129, t130⟩, A450, H⟩ := H
              replace H : ((laws_eqFeature.f kj18 t117 t118 t129 t130).bind fun t133 => (if t133 = true then (some true) else (some false))) = some r := H
              have A45 := Aside0.mk A450
              clear A450
              replace H := Option.bind_eq_some_iff.mp H
              obtain ⟨t133, A460, H⟩ := H
              replace H : (if t133 = true then (some true) else (some false)) = some r := H
              have A46 := Aside0.mk A460
              clear A460
              have HC47 := Aside0.mk H
              clear H
              try go_wp2
              (try (rw [drewN_self w43]; generalize hq_ : World.drewN w43 _ = w43; have n0_ : Aside0 (Kd.S k28 28 w43 w.heap.size (fun k_ => (((True ∧ some k_ ≠ (.slice Ao33 t114.length co33 : Value).ownBlock) ∧ some k_ ≠ (.slice Ao32 t118.length co32 : Value).ownBlock) ∧ k_ ≠ gb121)) (.slice Ao42 t125.length co42) t125) := ⟨by rw [← hq_]; exact (by (with_reducible repeat (first | apply Kd.S_alloc | apply Kd.S_drewN | apply Kd.S_drew)); exact HO127.out)⟩; have n1_ : Aside0 (Kd.R (Kd.int .i64) 2 w43 w.heap.size (fun k_ => True) (.slice Ao32 t118.length co32) t118) := ⟨by rw [← hq_]; exact (by (with_reducible repeat (first | apply Kd.R_alloc | apply Kd.R_drewN | apply Kd.R_drew)); exact HO_122001.out)⟩; have n2_ : Aside0 (Kd.S k28 28 w43 w.heap.size (fun k_ => ((some k_ ≠ (.slice Ao32 t118.length co32 : Value).ownBlock ∧ k_ ≠ gb121) ∧ some k_ ≠ (.slice Ao42 t125.length co42 : Value).ownBlock)) (.slice Ao33 t114.length co33) t114) := ⟨by rw [← hq_]; exact (by (with_reducible repeat (first | apply Kd.S_alloc | apply Kd.S_drewN | apply Kd.S_drew)); exact HO_9.out)⟩; have n3_ : Aside0 (w43.heap[gb101]? = some (.cells #[.string a1_0, .slice A1_1 l1_1.length c1_1] 24 (0, 0))) := ⟨by rw [← hq_]; exact (by (with_reducible repeat (first | refine blk_drewN ?_ _ | refine blk_drew ?_ | refine blk_alloc ?_ _)); exact BK101.out)⟩; have n4_ : Aside0 (w43.heap[gb121]? = some (.cells #[.string t117, .slice Ao32 t118.length co32] 28 (0, 0))) := ⟨by rw [← hq_]; exact (by (with_reducible repeat (first | refine blk_drewN ?_ _ | refine blk_drew ?_ | refine blk_alloc ?_ _)); exact BK121.out)⟩; have n5_ : Aside0 (Below w.heap.size w w43) := ⟨by rw [← hq_]; exact (by repeat (first | (with_reducible first | exact HB.out | apply below_alloc | apply pw_below_drewN | apply below_drew1 | refine below_set ?_ GE101.out | refine below_set ?_ GE121.out) | exact HB.out))⟩; clear HO127 HO_122001 HO_9 BK101 BK121 HB hq_; have HO127 := n0_; have HO_122001 := n1_; have HO_9 := n2_; have BK101 := n3_; have BK121 := n4_; have HB := n5_; clear n0_ n1_ n2_ n3_ n4_ n5_))
              have n0_ := Aside0.mk (Kd.S_drew HO_9.out)
              have n1_ := Aside0.mk (Kd.R_drew HO_122001.out)
              have n2_ := Aside0.mk (Kd.S_drew HO127.out)
              have n3_ := Aside0.mk (blk_drew BK101.out)
              have n4_ := Aside0.mk (blk_drew BK121.out)
              have n5_ := Aside0.mk (below_drew1 HB.out)
              clear HO_9
              clear HO_122001
              clear HO127
              clear BK101
              clear BK121
              clear HB
              have HO_9 := n0_
              have HO_122001 := n1_
              have HO127 := n2_
              have BK101 := n3_
              have BK121 := n4_
              have HB := n5_
              clear n0_ n1_ n2_ n3_ n4_ n5_
              refine start_ (n := 5) (S := fun w' => w'.cell? ⟨gb121, 0, none⟩ = some (.string t117) ∧ w'.cell? ⟨gb121, 1, none⟩ = some (.slice Ao32 t118.length co32) ∧ w'.cell? ⟨gb101, 0, none⟩ = some (.string a1_0) ∧ w'.cell? ⟨gb101, 1, none⟩ = some (.slice A1_1 l1_1.length c1_1)) (ds := []) #[false, false, false, false, false] (by kernel_rfl) rfl rfl ⟨(blk_cell BK121.out 0).trans rfl, (blk_cell BK121.out 1).trans rfl, (blk_cell BK101.out 0).trans rfl, (blk_cell BK101.out 1).trans rfl⟩ (fun hHeld => ?_)
              generalize w43.drew = w48 at HO_9 HO_122001 HO127 BK101 BK121 HB hHeld ⊢
              refine take_ (i := 0) (N := some 62) (v := ?_) (a' := ?_) #[true, false, false, false, false] rfl rfl (by kernel_rfl) (fun _ _ _ h => h) (Or.inl ⟨by rfl, ?_⟩) hHeld ?_ ?_
              rotate_left
              · rintro w' ⟨s0, s1, s2, s3⟩
                go_simp
                with_reducible rfl
              rotate_left
              · simp only [Act.put, List.setIfInBounds_toArray, List.set_cons_zero, List.set_cons_succ, i64_w, i32_w]
                rfl
              refine take_ (i := 1) (N := some 63) (v := ?_) (a' := ?_) #[true, true, false, false, false] rfl rfl (by kernel_rfl) (fun _ _ _ h => h) (Or.inl ⟨by rfl, ?_⟩) hHeld ?_ ?_
              rotate_left
              · rintro w' ⟨s0, s1, s2, s3⟩
                go_simp
                with_reducible rfl
              rotate_left
              · simp only [Act.put, List.setIfInBounds_toArray, List.set_cons_zero, List.set_cons_succ, i64_w, i32_w]
                rfl
              refine one_ (i := 2) (N := some 64) #[true, true, true, false, false] rfl rfl (by kernel_rfl) (by decide) (fun K hK => ?_)
              (first | refine goes_ Try.func14 (by kernel_rfl) rfl #[.agg #[.string a1_0, .slice A1_1 l1_1.length c1_1]] (by rfl) rfl rfl (by (try simp only [List.map_toArray, List.map_cons, List.map_nil]); first | done | rfl | (simp only [List.length_drop, List.length_take]; rfl)) ?_ | refine RPW.goesV_ Try.func14 (by kernel_rfl) rfl #[.agg #[.string a1_0, .slice A1_1 l1_1.length c1_1]] (by rfl) rfl rfl rfl (by (try simp only [List.map_toArray, List.map_cons, List.map_nil]); first | done | rfl | (simp only [List.length_drop, List.length_take]; rfl)) ?_ | refine RPW.goesC_ Try.func14 (by kernel_rfl) rfl #[.agg #[.string a1_0, .slice A1_1 l1_1.length c1_1]] (by rfl) rfl rfl rfl (by (try simp only [List.map_toArray, List.map_cons, List.map_nil]); first | done | rfl | (simp only [List.length_drop, List.length_take]; rfl)) ?_)
              with_reducible refine (laws_toFeature.calls kj18 a1_0 _ _ l1_1 t129 t130 _ ?side1 ?side2 A45.out).mono ?_
              (case side1 => repeat (first | exact (Kd.C_below HR1_1.out HB.out) | (with_reducible refine Kd.C_alloc ?_ _) | (with_reducible refine Kd.C_drewN ?_ _) | (with_reducible refine Kd.C_drew ?_)))
              (case side2 => exact HC1_1.out)
              rintro e w49 ⟨v131, rfl, ho0, hb⟩
              refine ⟨_, rfl, ?_⟩
              have n0_ := Aside0.mk (Kd.S_elder' (by (with_reducible repeat (first | apply Kd.S_alloc | apply Kd.S_drewN | apply Kd.S_drew)); exact HO_9.out) (Kd.R_base ho0) hb)
              have n1_ := Aside0.mk (Kd.R_elder' (by (with_reducible repeat (first | apply Kd.R_alloc | apply Kd.R_drewN | apply Kd.R_drew)); exact HO_122001.out) (Kd.R_base ho0) hb)
              have n2_ := Aside0.mk (Kd.S_elder' (by (with_reducible repeat (first | apply Kd.S_alloc | apply Kd.S_drewN | apply Kd.S_drew)); exact HO127.out) (Kd.R_base ho0) hb)
              have n3_ := Aside0.mk (Kd.R_lower (Kd.R_new' ho0 (Kd.R_lt (by (with_reducible repeat (first | apply Kd.R_alloc | apply Kd.R_drewN | apply Kd.R_drew)); exact HO_122001.out))) (below_size (by repeat (first | (with_reducible first | exact HB.out | apply below_alloc | apply pw_below_drewN | apply below_drew1 | refine below_set ?_ GE101.out | refine below_set ?_ GE121.out) | exact HB.out))))
              have n4_ := Aside0.mk (blk_below (g := gb101) (o := .cells #[.string a1_0, .slice A1_1 l1_1.length c1_1] 24 (0, 0)) (by (with_reducible repeat (first | refine blk_drewN ?_ _ | refine blk_drew ?_ | refine blk_alloc ?_ _)); exact BK101.out) hb)
              have n5_ := Aside0.mk (blk_below (g := gb121) (o := .cells #[.string t117, .slice Ao32 t118.length co32] 28 (0, 0)) (by (with_reducible repeat (first | refine blk_drewN ?_ _ | refine blk_drew ?_ | refine blk_alloc ?_ _)); exact BK121.out) hb)
              have n6_ := Aside0.mk (below_step (by repeat (first | (with_reducible first | exact HB.out | apply below_alloc | apply pw_below_drewN | apply below_drew1 | refine below_set ?_ GE101.out | refine below_set ?_ GE121.out) | exact HB.out)) hb)
              clear HO_9
              clear HO_122001
              clear HO127
              clear BK101
              clear BK121
              clear HB
              have HO_9 := n0_
              have HO_122001 := n1_
              have HO127 := n2_
              have HO132 := n3_
              have BK101 := n4_
              have BK121 := n5_
              have HB := n6_
              clear n0_ n1_ n2_ n3_ n4_ n5_ n6_
              (try clear hb)
              (try clear hb2)
              (try clear hk)
              (try clear hi)
              (try clear ho0)
              obtain ⟨Ao50, co50, eo50⟩ := Kd.R_slice HO132.out
              (first | subst eo50 | (injection eo50 with f1_ f2_ f3_; have f4_ := f1_.symm; have f5_ := f3_.symm; clear f1_ f2_ f3_; subst f4_; subst f5_))
              refine hK.out _ _ ⟨(blk_cell BK121.out 0).trans rfl, (blk_cell BK121.out 1).trans rfl, (blk_cell BK101.out 0).trans rfl, (blk_cell BK101.out 1).trans rfl⟩ (fun hHeld => ?_)
              clear hK K
              refine norm_ (a' := ?_) ?_ ?_
              rotate_left
              · show Act.put _ (some 64) _ = _
                simp only [Act.put, List.setIfInBounds_toArray, List.set_cons_zero, List.set_cons_succ, i64_w, i32_w]
                rfl
              refine one_ (i := 3) (N := some 65) #[true, true, true, true, false] rfl rfl (by kernel_rfl) (by decide) (fun K hK => ?_)
              (first | refine goes_ Try.func16 (by kernel_rfl) rfl #[.agg #[.string t117, .slice Ao32 t118.length co32], .agg #[.string t129, .slice Ao50 t130.length co50]] (by rfl) rfl rfl (by (try simp only [List.map_toArray, List.map_cons, List.map_nil]); first | done | rfl | (simp only [List.length_drop, List.length_take]; rfl)) ?_ | refine RPW.goesV_ Try.func16 (by kernel_rfl) rfl #[.agg #[.string t117, .slice Ao32 t118.length co32], .agg #[.string t129, .slice Ao50 t130.length co50]] (by rfl) rfl rfl rfl (by (try simp only [List.map_toArray, List.map_cons, List.map_nil]); first | done | rfl | (simp only [List.length_drop, List.length_take]; rfl)) ?_ | refine RPW.goesC_ Try.func16 (by kernel_rfl) rfl #[.agg #[.string t117, .slice Ao32 t118.length co32], .agg #[.string t129, .slice Ao50 t130.length co50]] (by rfl) rfl rfl rfl (by (try simp only [List.map_toArray, List.map_cons, List.map_nil]); first | done | rfl | (simp only [List.length_drop, List.length_take]; rfl)) ?_)
              with_reducible refine (laws_eqFeature.calls kj18 t117 _ _ t118 t129 _ _ t130 t133 _ ?side1 ?side2 ?side3 ?side4 A46.out).mono ?_
              (case side1 => repeat (first | exact (Kd.R_reads' HO_122001.out).2.2 | (with_reducible refine Kd.C_alloc ?_ _) | (with_reducible refine Kd.C_drewN ?_ _) | (with_reducible refine Kd.C_drew ?_)))
              (case side2 => exact (Kd.R_reads' HO_122001.out).2.1)
              (case side3 => repeat (first | exact (Kd.R_reads' HO132.out).2.2 | (with_reducible refine Kd.C_alloc ?_ _) | (with_reducible refine Kd.C_drewN ?_ _) | (with_reducible refine Kd.C_drew ?_)))
              (case side4 => exact (Kd.R_reads' HO132.out).2.1)
              rintro e w51 ⟨rfl, hb⟩
              refine ⟨_, rfl, ?_⟩
              have n0_ := Aside0.mk (Kd.S_below (by (with_reducible repeat (first | apply Kd.S_alloc | apply Kd.S_drewN | apply Kd.S_drew)); exact HO_9.out) hb)
              have n1_ := Aside0.mk (Kd.R_below (by (with_reducible repeat (first | apply Kd.R_alloc | apply Kd.R_drewN | apply Kd.R_drew)); exact HO_122001.out) hb)
              have n2_ := Aside0.mk (Kd.S_below (by (with_reducible repeat (first | apply Kd.S_alloc | apply Kd.S_drewN | apply Kd.S_drew)); exact HO127.out) hb)
              have n3_ := Aside0.mk (Kd.R_below (by (with_reducible repeat (first | apply Kd.R_alloc | apply Kd.R_drewN | apply Kd.R_drew)); exact HO132.out) hb)
              have n4_ := Aside0.mk (blk_below (g := gb101) (o := .cells #[.string a1_0, .slice A1_1 l1_1.length c1_1] 24 (0, 0)) (by (with_reducible repeat (first | refine blk_drewN ?_ _ | refine blk_drew ?_ | refine blk_alloc ?_ _)); exact BK101.out) hb)
              have n5_ := Aside0.mk (blk_below (g := gb121) (o := .cells #[.string t117, .slice Ao32 t118.length co32] 28 (0, 0)) (by (with_reducible repeat (first | refine blk_drewN ?_ _ | refine blk_drew ?_ | refine blk_alloc ?_ _)); exact BK121.out) hb)
              have n6_ := Aside0.mk (below_step (by repeat (first | (with_reducible first | exact HB.out | apply below_alloc | apply pw_below_drewN | apply below_drew1 | refine below_set ?_ GE101.out | refine below_set ?_ GE121.out) | exact HB.out)) hb)
              clear HO_9
              clear HO_122001
              clear HO127
              clear HO132
              clear BK101
              clear BK121
              clear HB
              have HO_9 := n0_
              have HO_122001 := n1_
              have HO127 := n2_
              have HO132 := n3_
              have BK101 := n4_
              have BK121 := n5_
              have HB := n6_
              clear n0_ n1_ n2_ n3_ n4_ n5_ n6_
              (try clear hb)
              (try clear hb2)
              (try clear hk)
              (try clear hi)
              refine hK.out _ _ ⟨(blk_cell BK121.out 0).trans rfl, (blk_cell BK121.out 1).trans rfl, (blk_cell BK101.out 0).trans rfl, (blk_cell BK101.out 1).trans rfl⟩ (fun hHeld => ?_)
              clear hK K
              refine norm_ (a' := ?_) ?_ ?_
              rotate_left
              · show Act.put _ (some 65) _ = _
                simp only [Act.put, List.setIfInBounds_toArray, List.set_cons_zero, List.set_cons_succ, i64_w, i32_w]
                rfl
              refine pure_ (i := 4) (N := some 66) (v := ?_) (a' := ?_) #[true, true, true, true, true] rfl rfl (by kernel_rfl) (fun _ _ _ h => h) (Or.inl ⟨by rfl, ?_⟩) ?_ ?_
              rotate_left
              · intro w'
                go_simp
                with_reducible rfl
              rotate_left
              · simp only [Act.put, List.setIfInBounds_toArray, List.set_cons_zero, List.set_cons_succ, i64_w, i32_w]
                rfl
              refine done_ (by kernel_rfl) ?_
              go_upto_if 66 with (fail)
              have H := HC47.out
              clear HC47
              by_cases c52 : t133 = true
              · subst c52
                have H1 : (some true) = some r := by rw [if_pos rfl] at H; exact H
                clear H
                have H := H1
                clear H1
                obtain rfl := Option.some.inj H
                go_wp2
                go_ret
                exact ⟨by first | rfl | (simp [errW_none, errW_some] <;> rfl) | (simp [*, errW_none, errW_some] <;> rfl), by repeat (first | (with_reducible first | exact HB.out | apply below_alloc | apply pw_below_drewN | apply below_drew1 | refine below_set ?_ GE101.out | refine below_set ?_ GE121.out) | exact HB.out)⟩
              · replace c52 := Bool.eq_false_iff.mpr c52
                subst c52
                have H1 : (some false) = some r := by rw [if_neg (show ¬ (false = true) by decide)] at H; exact H
                clear H
                have H := H1
                clear H1
                obtain rfl := Option.some.inj H
                go_wp2
                go_ret
                exact ⟨by first | rfl | (simp [errW_none, errW_some] <;> rfl) | (simp [*, errW_none, errW_some] <;> rfl), by repeat (first | (with_reducible first | exact HB.out | apply below_alloc | apply pw_below_drewN | apply below_drew1 | refine below_set ?_ GE101.out | refine below_set ?_ GE121.out) | exact HB.out)⟩
            · replace c44 := Bool.eq_false_iff.mpr c44
              subst c44
              have H1 : (some false) = some r := by rw [if_neg (show ¬ (false = true) by decide)] at H; exact H
              clear H
              have H := H1
              clear H1
              obtain rfl := Option.some.inj H
              go_wp2
              go_ret
              exact ⟨by first | rfl | (simp [errW_none, errW_some] <;> rfl) | (simp [*, errW_none, errW_some] <;> rfl), by repeat (first | (with_reducible first | exact HB.out | apply below_alloc | apply pw_below_drewN | apply below_drew1 | refine below_set ?_ GE101.out | refine below_set ?_ GE121.out) | exact HB.out)⟩
end Go.Proofs.Yteafahnopgmgoaa.Q
namespace Go.Proofs.Yteafahnopgmgoaa.Q
open Go.RowKit Go.Proofs.YteafahnopgmgoaaW.PrintWords Go.Proofs.YteafahnopgmgoaaW.PrintLast Go.Proofs.YteafahnopgmgoaaW.PrintMore
attribute [local go_sem] max2_int min2_int max_two min_two max_three min_three max_four min_four
set_option linter.unusedVariables false
set_option linter.unusedSimpArgs false
def laws_FnExactNearestFeature.Pure : Prop := ∀ (x0 : List (S24)) (x1 : S24), (x0.length ≤ maxLen ∧ ∀ y0 ∈ x0, W24 y0) → W24 x1 → ∃ k, laws_FnExactNearestFeature.f k x0 x1.f0 x1.f1 = some true
end Go.Proofs.Yteafahnopgmgoaa.Q
namespace Go.Proofs.Yteafahnopgmgoaa.Q
open Go.RowKit Go.Proofs.YteafahnopgmgoaaW.PrintWords Go.Proofs.YteafahnopgmgoaaW.PrintLast Go.Proofs.YteafahnopgmgoaaW.PrintMore
theorem wr64 {x : Int} (h0 : -9223372036854775808 ≤ x) (h1 : x < 9223372036854775808) : wrap64 x = x := by unfold wrap64; omega
theorem wr64s (i : Nat) (h : (i : Int) < 9223372036854775807) : wrap64 ((i : Int) + 1) = ((i + 1 : Nat) : Int) := by rw [wr64 (by omega) (by omega)]; omega
theorem Ev_suc {α : Type} {g : Nat → Option α} {r : α} (h : Ev (fun k => g (k + 1)) r) : Ev g r := by
  obtain ⟨K, hK⟩ := h
  refine ⟨K + 1, fun k hk => ?_⟩
  obtain ⟨m, rfl⟩ : ∃ m, k = m + 1 := ⟨k - 1, by omega⟩
  exact hK m (by omega)
theorem Ev_t {α : Type} {c : Prop} [Decidable c] {f g : Nat → Option α} {r : α} (h : c) (k : Ev f r) : Ev (fun n => if c then f n else g n) r := by
  obtain ⟨K, hK⟩ := k
  exact ⟨K, fun n hn => (if_pos h).trans (hK n hn)⟩
theorem Ev_f {α : Type} {c : Prop} [Decidable c] {f g : Nat → Option α} {r : α} (h : ¬ c) (k : Ev g r) : Ev (fun n => if c then f n else g n) r := by
  obtain ⟨K, hK⟩ := k
  exact ⟨K, fun n hn => (if_neg h).trans (hK n hn)⟩
theorem Ev_b {α β : Type} {g : Nat → Option α} {f : Nat → α → Option β} {a : α} {r : β} (h : Ev g a) (k : Ev (fun n => f n a) r) : Ev (fun n => (g n).bind (fun x => f n x)) r := Ev.bind h k
theorem Ev_s {α β : Type} {a : α} {f : Nat → α → Option β} {r : β} (k : Ev (fun n => f n a) r) : Ev (fun n => (some a).bind (fun x => f n x)) r := k
theorem Ev_n {α : Type} {a r : α} (h : a = r) : Ev (fun _ => some a) r := ⟨0, fun _ _ => by rw [h]⟩
theorem Ev_c {α : Type} {o : Option α} {r : α} (h : o = some r) : Ev (fun _ => o) r := ⟨0, fun _ _ => h⟩
theorem Ev_at {α : Type} {g : Nat → Option α} {r r' : α} (h : Ev g r) (e : r = r') : Ev g r' := e ▸ h
def cut (c s : Int) : Int := if s ≤ c then c - s else -1
theorem cut_pos {c s : Int} (h : s ≤ c) : cut c s = c - s := by unfold cut; rw [if_pos h]
theorem cut_neg {c s : Int} (h : ¬ s ≤ c) : cut c s = -1 := by unfold cut; rw [if_neg h]
theorem set_take' {α : Type} (xs : List α) (i : Nat) (m : α) (h : i < xs.length) : (xs.set i m).take (i + 1) = xs.take i ++ [m] := by
  rw [List.take_succ_eq_append_getElem (by simpa using h)]
  congr 1
  · rw [List.take_set_of_le (Nat.le_refl _)]
  · simp
theorem getD_in {α : Type} (l : List α) (z : α) (i : Nat) (h : i < l.length) : l.getD ((i : Int).toNat) z = l[i] := by simp [List.getD, h]
theorem getD_at {α : Type} (p q : List α) (z x : α) (i : Nat) (h : p.length = i) : (p ++ x :: q).getD ((i : Int).toNat) z = x := by subst h; simp [List.getD]
theorem set_at {α : Type} (p q : List α) (x y : α) (i : Nat) (h : p.length = i) : (p ++ x :: q).set ((i : Int).toNat) y = p ++ y :: q := by subst h; simp
theorem sum_le {α : Type} (f : α → Nat) : ∀ (l : List α) (x : α), x ∈ l → f x ≤ (l.map f).sum
  | a :: l, x, h => by
    rw [List.map_cons, List.sum_cons]
    rcases List.mem_cons.1 h with rfl | h
    · omega
    · have := sum_le f l x h; omega
end Go.Proofs.Yteafahnopgmgoaa.Q
namespace Go.Proofs.Yteafahnopgmgoaa.Q
open Go.RowKit Go.Proofs.YteafahnopgmgoaaW.PrintWords Go.Proofs.YteafahnopgmgoaaW.PrintLast Go.Proofs.YteafahnopgmgoaaW.PrintMore
set_option linter.unusedVariables false
theorem eqInt64S_ev' (l : List Int) (hl : (l.length : Int) ≤ 1000000000000) : Ev (fun k => laws_eqInt64S.f k l l) true := by
  have go : ∀ (q p : List Int) (i : Nat), p.length = i → (i : Int) + q.length ≤ 1000000000000 → Ev (fun k => laws_eqInt64S.l0 k (p ++ q) (p ++ q) i) true := by
    intro q
    induction q with
    | nil =>
      intro p i q1 q2
      refine Ev_suc ?_
      simp only [laws_eqInt64S.l0]
      exact Ev_f (by simp; omega) (Ev_n rfl)
    | cons x q ih =>
      intro p i q1 q2
      simp only [List.length_cons] at q2
      refine Ev_suc ?_
      simp only [laws_eqInt64S.l0]
      refine Ev_t (by simp; omega) (Ev_t (by omega) (Ev_t (by simp; omega) (Ev_t True.intro ?_)))
      rw [wr64s i (by omega)]
      have := ih (p ++ [x]) (i + 1) (by simp; omega) (by omega)
      rw [List.append_assoc, List.singleton_append] at this
      exact this
  simp only [laws_eqInt64S.f]
  exact Ev_t True.intro (go l [] 0 rfl (by simpa using hl))
theorem eq_Int64S (l : List Int) (hl : (l.length : Int) ≤ 1048576) : Ev (fun k => laws_eqInt64S.f k l l) true := eqInt64S_ev' l (by omega)
theorem sz_Int64S (l : List Int) (hl : l.length ≤ maxLen) (c : Int) (h0 : 0 ≤ c) (h1 : c ≤ 1048576) : Ev (fun _ => laws_szInt64S.f l c) (cut c (l.length : Nat)) := by
  have hM : maxLen = 9223372036854775807 := by decide
  rw [hM] at hl
  simp only [laws_szInt64S.f]
  rw [wr64 (x := c - (l.length : Int)) (by omega) (by omega)]
  by_cases g : c - (l.length : Int) < 0
  · rw [cut_neg (by omega)]; exact Ev_t g (Ev_n rfl)
  · rw [cut_pos (by omega)]; exact Ev_f g (Ev_n rfl)
theorem to_Int64S (l : List Int) (hl : (l.length : Int) ≤ 1048576) : Ev (fun k => laws_toInt64S.f k l) l := by
  have go : ∀ (d i : Nat) (xs : List Int), i + d = l.length → xs.length = l.length → xs.take i = l.take i → Ev (fun k => laws_toInt64S.l0 k l xs i) l := by
    intro d
    induction d with
    | zero =>
      intro i xs h1 h2 h3
      refine Ev_suc ?_
      simp only [laws_toInt64S.l0]
      refine Ev_f (by omega) (Ev_n ?_)
      rw [List.take_of_length_le (by omega), List.take_of_length_le (by omega)] at h3
      exact h3
    | succ d ih =>
      intro i xs h1 h2 h3
      refine Ev_suc ?_
      simp only [laws_toInt64S.l0]
      have hi : i < l.length := by omega
      have hr : rd l (i : Int) = l[i] := by unfold rd; exact getD_in l _ i hi
      refine Ev_t (by omega) (Ev_t (by omega) (Ev_t (by omega) ?_))
      rw [wr64s i (by omega), hr, Int.toNat_natCast]
      refine ih (i + 1) _ (by omega) (by simp [h2]) ?_
      rw [set_take' xs i _ (by omega), h3, List.take_succ_eq_append_getElem hi]
  simp only [laws_toInt64S.f]
  refine Ev_t (by omega) (Ev_t (by simpa using (by omega : l.length ≤ 35184372088832)) ?_)
  exact go l.length 0 _ (by omega) (by simp) (by simp)
end Go.Proofs.Yteafahnopgmgoaa.Q
namespace Go.Proofs.Yteafahnopgmgoaa.Q
open Go.RowKit Go.Proofs.YteafahnopgmgoaaW.PrintWords Go.Proofs.YteafahnopgmgoaaW.PrintLast Go.Proofs.YteafahnopgmgoaaW.PrintMore
set_option linter.unusedVariables false
set_option linter.unusedSimpArgs false
theorem rdl_Feature (l : List S24) (i : Nat) (h : i < l.length) : rd_T24 l (i : Int) = l[i] := by unfold rd_T24; exact getD_in l _ i h
theorem rdi_Feature (l : List S28) (i : Nat) (h : i < l.length) : rd_T28 l (i : Int) = l[i] := by unfold rd_T28; exact getD_in l _ i h
def Z_Feature (x : S24) : Nat := x.f0.size + x.f1.length
def ZS_Feature (l : List S24) : Nat := l.length + (l.map Z_Feature).sum
theorem ZS_in_Feature (l : List S24) : l.length ≤ ZS_Feature l ∧ ∀ y ∈ l, Z_Feature y ≤ ZS_Feature l := ⟨by unfold ZS_Feature; omega, fun y hy => by have := sum_le Z_Feature l y hy; unfold ZS_Feature; omega⟩
theorem sz_Feature (x : S24) (hw : W24 x) (c : Int) (h0 : 0 ≤ c) (h1 : c ≤ 1048576) : Ev (fun k => laws_szFeature.f (x.f0) (x.f1) c) (cut c (Z_Feature x)) := by
  have hM : maxLen = 9223372036854775807 := by decide
  unfold W24 at hw
  obtain ⟨w0, w1⟩ := hw
  simp only [laws_szFeature.f]
  have b0 : x.f0.size ≤ maxLen := w0
  rw [hM] at b0
  have e0 : wrap64 (c - ((x.f0.size : Nat) : Int)) = c - ((x.f0.size : Nat) : Int) := wr64 (by omega) (by omega)
  simp only [e0]
  by_cases g0 : c - ((x.f0.size : Nat) : Int) < 0
  · rw [cut_neg (by unfold Z_Feature; omega)]; exact Ev_t g0 (Ev_n rfl)
  refine Ev_f g0 ?_
  obtain ⟨c0, hc0⟩ : ∃ z_, z_ = c - ((x.f0.size : Nat) : Int) := ⟨_, rfl⟩
  simp only [← hc0]
  refine Ev_b (sz_Int64S x.f1 (by first | exact w1.1 | exact w1) c0 (by omega) (by omega)) ?_
  by_cases g1 : ((x.f1.length : Nat) : Int) ≤ c0
  case neg => rw [cut_neg g1, cut_neg (by unfold Z_Feature; omega)]; exact Ev_t (by decide) (Ev_n rfl)
  rw [cut_pos g1]
  refine Ev_f (by omega) ?_
  obtain ⟨c1, hc1⟩ : ∃ z_, z_ = c0 - ((x.f1.length : Nat) : Int) := ⟨_, rfl⟩
  simp only [← hc1]
  rw [cut_pos (by unfold Z_Feature; omega)]
  exact Ev_n (by unfold Z_Feature; omega)
theorem szS_Feature (l : List S24) (hl : l.length ≤ maxLen) (hw : ∀ y ∈ l, W24 y) (c : Int) (h0 : 0 ≤ c) (h1 : c ≤ 1048576) : Ev (fun k => laws_szFeatureS.f k l c) (cut c (ZS_Feature l)) := by
  have hM : maxLen = 9223372036854775807 := by decide
  rw [hM] at hl
  have go : ∀ (d i : Nat) (c : Int), i + d = l.length → l.length ≤ 1048576 → 0 ≤ c → c ≤ 1048576 → Ev (fun k => laws_szFeatureS.l0 k l c i) (cut c (((l.drop i).map Z_Feature).sum : Nat)) := by
    intro d
    induction d with
    | zero =>
      intro i c q1 q2 q3 q4
      refine Ev_suc ?_
      simp only [laws_szFeatureS.l0]
      rw [List.drop_of_length_le (by omega), cut_pos (by simpa using q3)]
      exact Ev_f (by omega) (Ev_n (by simp))
    | succ d ih =>
      intro i c q1 q2 q3 q4
      refine Ev_suc ?_
      simp only [laws_szFeatureS.l0]
      refine Ev_t (by omega) (Ev_t (by omega) ?_)
      rw [rdl_Feature l i (by omega)]
      refine Ev_b (sz_Feature l[i] (hw _ (List.getElem_mem _)) c q3 q4) ?_
      rw [List.drop_eq_getElem_cons (show i < l.length by omega), List.map_cons, List.sum_cons]
      by_cases g : ((Z_Feature l[i] : Nat) : Int) ≤ c
      case neg => rw [cut_neg g, cut_neg (by omega)]; exact Ev_t (by decide) (Ev_n rfl)
      rw [cut_pos g]
      refine Ev_f (by omega) ?_
      rw [wr64s i (by omega)]
      refine Ev_at (ih (i + 1) _ (by omega) q2 (by omega) (by omega)) ?_
      unfold cut
      split <;> split <;> omega
  simp only [laws_szFeatureS.f]
  rw [wr64 (x := c - (l.length : Int)) (by omega) (by omega)]
  by_cases g : c - (l.length : Int) < 0
  · rw [cut_neg (by unfold ZS_Feature; omega)]
    exact Ev_t g (Ev_n rfl)
  · refine Ev_f g (Ev_at (go l.length 0 _ (by omega) (by omega) (by omega) (by omega)) ?_)
    rw [List.drop_zero]
    unfold cut ZS_Feature
    split <;> split <;> omega
def conv_Feature (x : S24) : S28 := ⟨x.f0, x.f1⟩
def B_Feature (x : S24) : Prop := ((x.f1.length : Int) ≤ 1048576)
theorem B_of_Feature (x : S24) (h : (Z_Feature x : Int) ≤ 1048576) : B_Feature x := by
  unfold Z_Feature at h
  unfold B_Feature
  exact by omega
theorem to_Feature (x : S24) (hb : B_Feature x) : Ev (fun k => laws_toFeature.f k (x.f0) (x.f1)) ((conv_Feature x).f0, (conv_Feature x).f1) := by
  unfold B_Feature at hb
  simp only [laws_toFeature.f]
  refine Ev_b (to_Int64S x.f1 hb) ?_
  exact Ev_n rfl
theorem toS_Feature (l : List S24) (hl : (l.length : Int) ≤ 1048576) (hb : ∀ y ∈ l, B_Feature y) : Ev (fun k => laws_toFeatureS.f k l) (l.map conv_Feature) := by
  have go : ∀ (d i : Nat) (xs : List S28), i + d = l.length → xs.length = l.length → xs.take i = (l.map conv_Feature).take i → Ev (fun k => laws_toFeatureS.l0 k l xs i) (l.map conv_Feature) := by
    intro d
    induction d with
    | zero =>
      intro i xs q1 q2 q3
      refine Ev_suc ?_
      simp only [laws_toFeatureS.l0]
      rw [List.take_of_length_le (by omega), List.take_of_length_le (by simp; omega)] at q3
      rw [q3]
      exact Ev_f (by omega) (Ev_n rfl)
    | succ d ih =>
      intro i xs q1 q2 q3
      refine Ev_suc ?_
      simp only [laws_toFeatureS.l0]
      refine Ev_t (by omega) (Ev_t (by omega) ?_)
      rw [rdl_Feature l i (by omega)]
      refine Ev_b (to_Feature l[i] (hb _ (List.getElem_mem _))) ?_
      refine Ev_t (by omega) ?_
      rw [wr64s i (by omega), Int.toNat_natCast]
      refine ih (i + 1) _ (by omega) (by rw [List.length_set]; exact q2) ?_
      rw [set_take' _ _ _ (by omega), q3, List.take_succ_eq_append_getElem (by simp; omega)]
      simp [conv_Feature]
  simp only [laws_toFeatureS.f]
  refine Ev_t (by omega) (Ev_t (by omega) ?_)
  exact go l.length 0 _ (by omega) (by simp) (by simp)
def E_Feature (x : S28) : Prop := ((x.f1.length : Int) ≤ 1048576)
theorem E_of_Feature (x : S24) (hb : B_Feature x) : E_Feature (conv_Feature x) := by
  unfold B_Feature at hb
  unfold E_Feature
  exact by unfold conv_Feature; simpa using hb
theorem eq_Feature (x : S28) (he : E_Feature x) : Ev (fun k => laws_eqFeature.f k (x.f0) (x.f1) (x.f0) (x.f1)) true := by
  unfold E_Feature at he
  simp only [laws_eqFeature.f, if_true]
  refine Ev_b (eq_Int64S x.f1 he) ?_
  simp only [if_true]
  exact Ev_n rfl
theorem eqS_Feature (m : List S28) (hl : (m.length : Int) ≤ 1048576) (he : ∀ y ∈ m, E_Feature y) : Ev (fun k => laws_eqFeatureS.f k m m) true := by
  have go : ∀ (d i : Nat), i + d = m.length → Ev (fun k => laws_eqFeatureS.l0 k m m i) true := by
    intro d
    induction d with
    | zero =>
      intro i q1
      refine Ev_suc ?_
      simp only [laws_eqFeatureS.l0]
      exact Ev_f (by omega) (Ev_n rfl)
    | succ d ih =>
      intro i q1
      refine Ev_suc ?_
      simp only [laws_eqFeatureS.l0]
      refine Ev_t (by omega) (Ev_t (by omega) (Ev_t (by omega) ?_))
      rw [rdi_Feature m i (by omega)]
      refine Ev_b (eq_Feature m[i] (he _ (List.getElem_mem _))) ?_
      rw [wr64s i (by omega)]
      exact Ev_t rfl (ih (i + 1) (by omega))
  simp only [laws_eqFeatureS.f]
  exact Ev_t (by first | trivial | rfl) (go m.length 0 (by omega))
end Go.Proofs.Yteafahnopgmgoaa.Q
namespace Go.Proofs.Yteafahnopgmgoaa.Q
open Go.RowKit Go.Proofs.YteafahnopgmgoaaW.PrintWords Go.Proofs.YteafahnopgmgoaaW.PrintLast Go.Proofs.YteafahnopgmgoaaW.PrintMore
theorem ite_and (b c : Bool) : (if b = true then some c else some false) = some (b && c) := by cases b <;> rfl
theorem in_f (a b c : Int) : spec_l00In.f a b c = some (decide (b ≤ a) && decide (a ≤ c)) := by unfold spec_l00In.f; by_cases h : a ≥ b <;> simp [h]
theorem within_f (a b c : Int) : impl_within.f a b c = some (decide (b ≤ a) && decide (a ≤ c)) := by unfold impl_within.f; by_cases h : a ≥ b <;> simp [h]
theorem w64 {x : Int} (h0 : -9223372036854775808 ≤ x) (h1 : x < 9223372036854775808) : wrap64 x = x := by unfold wrap64; omega
end Go.Proofs.Yteafahnopgmgoaa.Q
namespace Go.Proofs.Yteafahnopgmgoaa.Q
open Go.RowKit Go.Proofs.YteafahnopgmgoaaW.PrintWords Go.Proofs.YteafahnopgmgoaaW.PrintLast Go.Proofs.YteafahnopgmgoaaW.PrintMore
theorem toList_len (x : ByteArray) : x.toList.length = x.size := by
  rw [Go.ByteArray.toList_eq x, Array.length_toList]; rfl
theorem name_round (k : Nat) (x : ByteArray) (i : Int) : spec_l01Name.l0 k x i = impl_IsName.l0 k x i := by
  induction k generalizing i with
  | zero => rfl
  | succ k ih =>
    simp only [spec_l01Name.l0, impl_IsName.l0, ih, spec_l01Small.f, spec_l01Digit.f]
    by_cases h1 : i < (x.size : Int)
    · rw [if_pos h1, if_pos h1]
      by_cases h2 : 0 ≤ i
      · rw [if_pos h2, if_pos h2]
        generalize bt x i = c
        by_cases h3 : c < 97
        · rw [if_pos h3, if_neg (by omega)]
          by_cases h4 : c < 48
          · rw [if_pos h4, if_neg (by omega)]; simp
          · rw [if_neg h4, if_pos (by omega)]
            by_cases h5 : c > 57
            · rw [if_pos h5]; simp [show ¬ c ≤ 57 by omega]
            · rw [if_neg h5]; simp [show c ≤ 57 by omega]
        · rw [if_neg h3, if_pos (show c ≥ 97 by omega)]
          by_cases h4 : c > 122
          · simp [h4, show ¬ c < 48 by omega, show c > 57 by omega, show ¬ c ≤ 122 by omega, show ¬ c ≤ 57 by omega]
          · rw [if_neg h4]; simp [show c ≤ 122 by omega]
      · rw [if_neg h2, if_neg h2]
    · rw [if_neg h1, if_neg h1]
theorem name_same (k : Nat) (x : ByteArray) : spec_l01Name.f k x = impl_IsName.f k x := by
  have hj : ∀ b, spec_l01Name.j0 k x b = impl_IsName.j0 k x b := by
    intro b
    cases k with
    | zero => rfl
    | succ k => simp only [spec_l01Name.j0, impl_IsName.j0, name_round]
  unfold spec_l01Name.f impl_IsName.f spec_l01Small.f
  simp only [hj]
  by_cases h0 : x.toList = []
  · have : x.size = 0 := by rw [← toList_len, h0]; rfl
    rw [if_pos h0, if_pos (by omega)]
  · have : x.size ≠ 0 := by
      intro e; apply h0; apply List.eq_nil_of_length_eq_zero; rw [toList_len, e]
    rw [if_neg h0, if_neg (show ¬ (x.size : Int) < 1 by omega)]
    by_cases h1 : (x.size : Int) > 10
    · rw [if_pos h1, if_pos h1]
    · rw [if_neg h1, if_neg h1, if_pos (show 0 < (x.size : Int) by omega), if_pos (show 0 < (x.size : Int) by omega)]
      generalize bt x 0 = c
      by_cases h3 : c < 97
      · rw [if_pos h3, if_neg (show ¬ c ≥ 97 by omega)]; rfl
      · rw [if_neg h3, if_pos (show c ≥ 97 by omega)]
        simp only [Option.bind_some]
        congr 1
        by_cases h4 : c > 122
        · simp [h4, show ¬ c ≤ 122 by omega]
        · simp [h4, show c ≤ 122 by omega]
theorem name_ev (x : ByteArray) : ∃ b, ∀ k, 12 < k → impl_IsName.f k x = some b := by
  have go : ∀ (d : Nat) (i : Int), 0 ≤ i → i + d = x.size → (x.size : Int) ≤ 10 → ∃ b, ∀ k, d < k → impl_IsName.l0 k x i = some b := by
    intro d
    induction d with
    | zero =>
      intro i h0 h1 _
      refine ⟨true, fun k hk => ?_⟩
      obtain ⟨k, rfl⟩ : ∃ m, k = m + 1 := ⟨k - 1, by omega⟩
      simp only [impl_IsName.l0]
      rw [if_neg (by omega)]
    | succ d ih =>
      intro i h0 h1 h2
      obtain ⟨b, hb⟩ := ih (i + 1) (by omega) (by omega) h2
      by_cases h3 : bt x i < 97
      · by_cases h4 : bt x i < 48
        · refine ⟨false, fun k hk => ?_⟩
          obtain ⟨k, rfl⟩ : ∃ m, k = m + 1 := ⟨k - 1, by omega⟩
          simp only [impl_IsName.l0]
          rw [if_pos (by omega), if_pos h0, if_pos h3, if_pos h4]
        · by_cases h5 : bt x i > 57
          · refine ⟨false, fun k hk => ?_⟩
            obtain ⟨k, rfl⟩ : ∃ m, k = m + 1 := ⟨k - 1, by omega⟩
            simp only [impl_IsName.l0]
            rw [if_pos (by omega), if_pos h0, if_pos h3, if_neg h4, if_pos h5]
          · refine ⟨b, fun k hk => ?_⟩
            obtain ⟨k, rfl⟩ : ∃ m, k = m + 1 := ⟨k - 1, by omega⟩
            simp only [impl_IsName.l0]
            rw [if_pos (by omega), if_pos h0, if_pos h3, if_neg h4, if_neg h5, w64 (by omega) (by omega), hb k (by omega)]
      · by_cases h4 : bt x i > 122
        · refine ⟨false, fun k hk => ?_⟩
          obtain ⟨k, rfl⟩ : ∃ m, k = m + 1 := ⟨k - 1, by omega⟩
          simp only [impl_IsName.l0]
          rw [if_pos (by omega), if_pos h0, if_neg h3, if_pos h4, if_neg (by omega), if_pos (by omega)]
        · refine ⟨b, fun k hk => ?_⟩
          obtain ⟨k, rfl⟩ : ∃ m, k = m + 1 := ⟨k - 1, by omega⟩
          simp only [impl_IsName.l0]
          rw [if_pos (by omega), if_pos h0, if_neg h3, if_neg h4, w64 (by omega) (by omega), hb k (by omega)]
  have hj : ∀ (b : Bool), (b = false → (x.size : Int) ≤ 10) → ∃ c, ∀ k, 12 < k → impl_IsName.j0 k x b = some c := by
    intro b hs
    cases b with
    | true =>
      refine ⟨false, fun k hk => ?_⟩
      obtain ⟨k, rfl⟩ : ∃ m, k = m + 1 := ⟨k - 1, by omega⟩
      simp only [impl_IsName.j0, if_true]
    | false =>
      obtain ⟨c, hc⟩ := go x.size 0 (by omega) (by omega) (hs rfl)
      have := hs rfl
      refine ⟨c, fun k hk => ?_⟩
      obtain ⟨k, rfl⟩ : ∃ m, k = m + 1 := ⟨k - 1, by omega⟩
      simp only [impl_IsName.j0]
      rw [if_neg (by decide), hc k (by omega)]
  unfold impl_IsName.f
  by_cases h1 : (x.size : Int) < 1
  · simp only [if_pos h1]; exact hj true (by intro h; cases h)
  · simp only [if_neg h1]
    by_cases h2 : (x.size : Int) > 10
    · simp only [if_pos h2]; exact hj true (by intro h; cases h)
    · simp only [if_neg h2, if_pos (show 0 < (x.size : Int) by omega)]
      by_cases h3 : bt x 0 < 97
      · simp only [if_pos h3]; exact hj true (by intro h; cases h)
      · simp only [if_neg h3]; exact hj _ (fun _ => by omega)
end Go.Proofs.Yteafahnopgmgoaa.Q
namespace Go.Proofs.Yteafahnopgmgoaa.Q
open Go.RowKit Go.Proofs.YteafahnopgmgoaaW.PrintWords Go.Proofs.YteafahnopgmgoaaW.PrintLast Go.Proofs.YteafahnopgmgoaaW.PrintMore
attribute [local go_sem] max2_int min2_int max_two min_two max_three min_three max_four min_four
set_option linter.unusedVariables false
set_option linter.unusedSimpArgs false
def spec_l00Own.f (l0 : List Int) : Option (List Int) := (some (([] : List Int) : List Int)).bind fun y101 => (if y101.length + l0.length < 17592186044416 then (some (y101 ++ l0)) else (none))
set_option maxHeartbeats 8000000 in
set_option maxRecDepth 100000 in
theorem spec_l00Own.calls (A0 : Option Addr) (c0 : Nat) (l0 : List Int) (r : List Int) (w : World) (hr0 : Kd.C (Kd.int .i64) w A0 l0.length l0) (hc0 : l0.length ≤ c0) (h : spec_l00Own.f l0 = some r) :
    Calls Try.prog 96 #[.slice A0 l0.length c0] w fun e w' => ∃ v0_ : Value, e = .returned (v0_) ∧ Kd.R (Kd.int .i64) 2 w' w.heap.size (fun _ => True) v0_ r ∧ Below w.heap.size w w' := by
  have HR0 := Aside0.mk hr0
  have HC0 := Aside0.mk hc0
  clear hr0 hc0
  have HB := Aside0.mk (Below.refl w.heap.size w)
  have H : ((some (([] : List Int) : List Int)).bind fun y101 => (if y101.length + l0.length < 17592186044416 then (some (y101 ++ l0)) else (none))) = some r := h
  clear h
  obtain ⟨y101, hy101⟩ : ∃ y_ : List Int, y_ = (([] : List Int)) := ⟨_, rfl⟩
  replace H : (if y101.length + l0.length < 17592186044416 then (some (y101 ++ l0)) else (none)) = some r := by first | (rw [hy101]; with_reducible exact H) | (have H2_ := (Option.bind_some _ _).symm.trans H; rw [hy101]; with_reducible exact H2_) | (have H2_ := (Option.bind_some _ _).symm.trans H; with_reducible exact H2_) | with_reducible exact H | (rw [hy101]; exact H) | exact H
  have Ny101 := Aside0.mk hy101
  clear hy101
  by_cases c2 : y101.length + l0.length < 17592186044416
  · rw [if_pos c2] at H
    have LMc2 := Aside0.mk c2
    clear c2
    obtain ⟨y104, hy104⟩ : ∃ y_ : List Int, y_ = (y101 ++ l0) := ⟨_, rfl⟩
    replace H : (some y104) = some r := by first | (rw [hy104]; with_reducible exact H) | (have H2_ := (Option.bind_some _ _).symm.trans H; rw [hy104]; with_reducible exact H2_) | (have H2_ := (Option.bind_some _ _).symm.trans H; with_reducible exact H2_) | with_reducible exact H | (rw [hy104]; exact H) | exact H
    have Ny104 := Aside0.mk hy104
    clear hy104
    obtain rfl := Option.some.inj H
    go_enter Try.func96, Try.ntmps96
    go_wp2_with (first | ((with_reducible refine gate_dst (N := 3) rfl ?_); refine Kd.R_lit (Kd.int .i64) _ 2 ?hg (N := 3) ?hd (xs := ([] : List Int)) (inner := []) (ok := fun _ => True) (okp := fun _ => True) ?hr ?hp (fun _ hk => hk) trivial (Below.refl _ _) (Nat.le_refl _) (by simp) ?_; (case hd => rfl); (case hg => rfl); (case hr => first | (go_simp; done) | (go_simp; rfl)); (case hp => exact (Reps.none _ _)); intro v102 w3 ho4 hb hg_ hnew_; clear hg_ hnew_; (first | rw [← Ny101.out] at ho4 | (simp only [Int.reduceToNat] at ho4; rw [← Ny101.out] at ho4)); have n0_ := Aside0.mk (Kd.R_lower ho4 (below_size (by repeat (first | (with_reducible first | exact HB.out | apply below_alloc | apply pw_below_drewN | apply below_drew1) | exact HB.out)))); have n1_ := Aside0.mk (below_step (by repeat (first | (with_reducible first | exact HB.out | apply below_alloc | apply pw_below_drewN | apply below_drew1) | exact HB.out)) hb); clear HB; have HO103 := n0_; have HB := n1_; clear n0_ n1_; clear hb ho4) | ((with_reducible refine gate_builtin (b := .append) (xs := #[.tmp 3, .tmp 4]) rfl ?_); at_builtin; refine Kd.R_append_rows (Kd.int .i64) (w0 := w) w.heap.size rfl (.tmp 3) (.tmp 4) 22 2 (.int .i64 0) 8 rfl Try.underlying22 info2 rfl (by decide) (by omega) v102 y101 l0 _ _ _ (fun _ => True) (fun _ => False) rfl rfl ?aO ?aR (fun _ _ h => h) (fun _ h => h.elim) ?aF ?aB ?aS ?aL ?_; (case aR => repeat (first | exact (Kd.C_below HR0.out HB.out) | (with_reducible refine Kd.C_alloc ?_ _) | (with_reducible refine Kd.C_drewN ?_ _) | (with_reducible refine Kd.C_drew ?_))); (case aB => exact (by repeat (first | (with_reducible first | exact HB.out | apply below_alloc | apply pw_below_drewN | apply below_drew1) | exact HB.out))); (case aF => exact (fun _ _ => trivial)); (case aO => exact (by (with_reducible repeat (first | apply Kd.R_alloc | apply Kd.R_drewN | apply Kd.R_drew)); exact HO103.out)); (case aS => exact (below_size (by repeat (first | (with_reducible first | exact HB.out | apply below_alloc | apply pw_below_drewN | apply below_drew1) | exact HB.out)))); (case aL => have := LMc2.out; omega); intro v105 w5 ho hb hg hat; rw [← Ny104.out] at ho; have n0_ := Aside0.mk (hb); have n1_ := Aside0.mk (ho); clear HB; clear HO103; have HB := n0_; have HO106 := n1_; clear n0_ n1_; clear ho hb hg hat))
    go_ret
    exact ⟨_, by first | rfl | (simp [errW_none, errW_some] <;> rfl) | (simp [*, errW_none, errW_some] <;> rfl), by (with_reducible repeat (first | apply Kd.R_alloc | apply Kd.R_drewN | apply Kd.R_drew)); exact HO106.out, by repeat (first | (with_reducible first | exact HB.out | apply below_alloc | apply pw_below_drewN | apply below_drew1) | exact HB.out)⟩
  · rw [if_neg c2] at H
    exact absurd H (by simp)
end Go.Proofs.Yteafahnopgmgoaa.Q
namespace Go.Proofs.Yteafahnopgmgoaa.Q
open Go.RowKit Go.Proofs.YteafahnopgmgoaaW.PrintWords Go.Proofs.YteafahnopgmgoaaW.PrintLast Go.Proofs.YteafahnopgmgoaaW.PrintMore
attribute [local go_sem] max2_int min2_int max_two min_two max_three min_three max_four min_four
set_option linter.unusedVariables false
set_option linter.unusedSimpArgs false
mutual
def spec_l14Order.l0 : Nat → List Int → List Int → Int → Option (List Int)
  | 0, _, _, _ => none
  | k + 1, x0, x3, x4 => if x4 < (x0.length : Int) then (spec_l14Order.l1 k x0 x3 x4 (x3.length : Int)) else (some x3)
def spec_l14Order.l1 : Nat → List Int → List Int → Int → Int → Option (List Int)
  | 0, _, _, _, _ => none
  | k + 1, x0, x3, x4, x5 => if x5 > 0 then (if 0 ≤ (wrap64 (x5 - 1)) then (if (wrap64 (x5 - 1)) < (x3.length : Int) then (if 0 ≤ (rd x3 (wrap64 (x5 - 1))) then (if (rd x3 (wrap64 (x5 - 1))) < (x0.length : Int) then (if 0 ≤ x4 then (if x4 < (x0.length : Int) then (if (rd x0 (rd x3 (wrap64 (x5 - 1)))) < (rd x0 x4) then (spec_l14Order.l1 k x0 x3 x4 (wrap64 (x5 - 1))) else (if 0 ≤ x5 then (if x5 ≤ (x3.length : Int) then ((spec_l00Own.f (x3.take (x5 : Int).toNat)).bind fun t111 => (if t111.length < 17592186044416 then ((some (t111 ++ [x4] : List Int)).bind fun y114 => ((some (x3.drop (x5 : Int).toNat : List Int)).bind fun y117 => (if y114.length + y117.length < 17592186044416 then (spec_l14Order.l0 k x0 (y114 ++ y117) (wrap64 (x4 + 1))) else (none)))) else (none))) else (none)) else (none))) else (none)) else (none)) else (none)) else (none)) else (none)) else (none)) else (if 0 ≤ x5 then (if x5 ≤ (x3.length : Int) then ((spec_l00Own.f (x3.take (x5 : Int).toNat)).bind fun t128 => (if t128.length < 17592186044416 then ((some (t128 ++ [x4] : List Int)).bind fun y131 => ((some (x3.drop (x5 : Int).toNat : List Int)).bind fun y134 => (if y131.length + y134.length < 17592186044416 then (spec_l14Order.l0 k x0 (y131 ++ y134) (wrap64 (x4 + 1))) else (none)))) else (none))) else (none)) else (none))
end
def spec_l14Order.f (k : Nat) (l0 : List Int) : Option (List Int) := spec_l14Order.l0 k l0 (([] : List Int)) 0
set_option maxHeartbeats 8000000 in
set_option maxRecDepth 100000 in
theorem spec_l14Order.calls (k : Nat) (A0 : Option Addr) (c0 : Nat) (l0 : List Int) (r : List Int) (w : World) (hr0 : Kd.C (Kd.int .i64) w A0 l0.length l0) (hc0 : l0.length ≤ c0) (h : spec_l14Order.f k l0 = some r) :
    Calls Try.prog 74 #[.slice A0 l0.length c0] w fun e w' => ∃ v0_ : Value, e = .returned (v0_) ∧ Kd.R (Kd.int .i64) 2 w' w.heap.size (fun _ => True) v0_ r ∧ Below w.heap.size w w' := by
  have HR0 := Aside0.mk hr0
  have HC0 := Aside0.mk hc0
  clear hr0 hc0
  have HB := Aside0.mk (Below.refl w.heap.size w)
  have H : (spec_l14Order.l0 k l0 (([] : List Int)) 0) = some r := h
  clear h
  obtain ⟨y101, hy101⟩ : ∃ y_ : List Int, y_ = (([] : List Int)) := ⟨_, rfl⟩
  replace H : (spec_l14Order.l0 k l0 y101 0) = some r := by first | (rw [hy101]; with_reducible exact H) | (have H2_ := (Option.bind_some _ _).symm.trans H; rw [hy101]; with_reducible exact H2_) | (have H2_ := (Option.bind_some _ _).symm.trans H; with_reducible exact H2_) | with_reducible exact H | (rw [hy101]; exact H) | exact H
  have Ny101 := Aside0.mk hy101
  clear hy101
  have H' := Aside0.mk H
  clear H
  go_enter Try.func74, Try.ntmps74
  go_wp2_with (first | ((with_reducible refine gate_dst (N := 7) rfl ?_); refine Kd.R_lit (Kd.int .i64) _ 2 ?hg (N := 7) ?hd (xs := ([] : List Int)) (inner := []) (ok := fun _ => True) (okp := fun _ => True) ?hr ?hp (fun _ hk => hk) trivial (Below.refl _ _) (Nat.le_refl _) (by simp) ?_; (case hd => rfl); (case hg => rfl); (case hr => first | (go_simp; done) | (go_simp; rfl)); (case hp => exact (Reps.none _ _)); intro v102 w2 ho3 hb hg_ hnew_; clear hg_ hnew_; (first | rw [← Ny101.out] at ho3 | (simp only [Int.reduceToNat] at ho3; rw [← Ny101.out] at ho3)); have n0_ := Aside0.mk (Kd.R_lower ho3 (below_size (by repeat (first | (with_reducible first | exact HB.out | apply below_alloc | apply pw_below_drewN | apply below_drew1) | exact HB.out)))); have n1_ := Aside0.mk (below_step (by repeat (first | (with_reducible first | exact HB.out | apply below_alloc | apply pw_below_drewN | apply below_drew1) | exact HB.out)) hb); clear HB; have HO103 := n0_; have HB := n1_; clear n0_ n1_; clear hb ho3))
  repeat (go_quiet (first | ((with_reducible refine gate_dst (N := 7) rfl ?_); refine Kd.R_lit (Kd.int .i64) _ 2 ?hg (N := 7) ?hd (xs := ([] : List Int)) (inner := []) (ok := fun _ => True) (okp := fun _ => True) ?hr ?hp (fun _ hk => hk) trivial (Below.refl _ _) (Nat.le_refl _) (by simp) ?_; (case hd => rfl); (case hg => rfl); (case hr => first | (go_simp; done) | (go_simp; rfl)); (case hp => exact (Reps.none _ _)); intro v102 w2 ho3 hb hg_ hnew_; clear hg_ hnew_; (first | rw [← Ny101.out] at ho3 | (simp only [Int.reduceToNat] at ho3; rw [← Ny101.out] at ho3)); have n0_ := Aside0.mk (Kd.R_lower ho3 (below_size (by repeat (first | (with_reducible first | exact HB.out | apply below_alloc | apply pw_below_drewN | apply below_drew1) | exact HB.out)))); have n1_ := Aside0.mk (below_step (by repeat (first | (with_reducible first | exact HB.out | apply below_alloc | apply pw_below_drewN | apply below_drew1) | exact HB.out)) hb); clear HB; have HO103 := n0_; have HB := n1_; clear n0_ n1_; clear hb ho3)); try go_wp2_with (first | ((with_reducible refine gate_dst (N := 7) rfl ?_); refine Kd.R_lit (Kd.int .i64) _ 2 ?hg (N := 7) ?hd (xs := ([] : List Int)) (inner := []) (ok := fun _ => True) (okp := fun _ => True) ?hr ?hp (fun _ hk => hk) trivial (Below.refl _ _) (Nat.le_refl _) (by simp) ?_; (case hd => rfl); (case hg => rfl); (case hr => first | (go_simp; done) | (go_simp; rfl)); (case hp => exact (Reps.none _ _)); intro v102 w2 ho3 hb hg_ hnew_; clear hg_ hnew_; (first | rw [← Ny101.out] at ho3 | (simp only [Int.reduceToNat] at ho3; rw [← Ny101.out] at ho3)); have n0_ := Aside0.mk (Kd.R_lower ho3 (below_size (by repeat (first | (with_reducible first | exact HB.out | apply below_alloc | apply pw_below_drewN | apply below_drew1) | exact HB.out)))); have n1_ := Aside0.mk (below_step (by repeat (first | (with_reducible first | exact HB.out | apply below_alloc | apply pw_below_drewN | apply below_drew1) | exact HB.out)) hb); clear HB; have HO103 := n0_; have HB := n1_; clear n0_ n1_; clear hb ho3)))
  (try simp only [Act.put, List.setIfInBounds_toArray, List.set_cons_zero, List.set_cons_succ])
  go_loopg [3, 4] k (fun kq v3 v4 w' => ∃ (x3_1 : List Int) (x4_1 : Int), v4 = .int .i64 x4_1 ∧ Aside0 (spec_l14Order.l0 kq l0 x3_1 x4_1 = some r) ∧ Aside0 (kq ≤ k) ∧ Aside0 (Kd.R (Kd.int .i64) 2 w' w.heap.size (fun _ => True) v3 x3_1) ∧ Aside0 (Below w.heap.size w w'))
  case atStart => exact ⟨(y101), (0), (by first | rfl | (simp; done) | (simp [*]; done)), H', ⟨Nat.le_refl _⟩, ⟨by (with_reducible repeat (first | apply Kd.R_alloc | apply Kd.R_drewN | apply Kd.R_drew)); exact HO103.out⟩, ⟨by repeat (first | (with_reducible first | exact HB.out | apply below_alloc | apply pw_below_drewN | apply below_drew1) | exact HB.out)⟩⟩
  case round =>
    clear H'
    try clear p2
    obtain ⟨x3_1, x4_1, rfl, HA, HK1, HO_3, HB⟩ := hrel
    cases gk with
    | zero => exact absurd HA.out (by simp [spec_l14Order.l0])
    | succ k1 =>
      have H := HA.out
      clear HA
      simp only [spec_l14Order.l0] at H
      by_cases c4 : x4_1 < (l0.length : Int)
      · rw [if_pos c4] at H
        have c4b0 : decide (x4_1 < (l0.length : Int)) = true := decide_eq_true c4
        clear c4
        have H' := Aside0.mk H
        clear H
        obtain ⟨Ao5, co5, eo5⟩ := Kd.R_slice HO_3.out
        subst eo5
        go_wp2
        repeat (go_quiet (fail); try go_wp2)
        (try simp only [Act.put, List.setIfInBounds_toArray, List.set_cons_zero, List.set_cons_succ])
        go_loopg [5] k1 (fun kq v5 w' => ∃ (x5_2 : Int), v5 = .int .i64 x5_2 ∧ Aside0 (spec_l14Order.l1 kq l0 x3_1 x4_1 x5_2 = some r) ∧ Aside0 (kq ≤ k1) ∧ Aside0 (Kd.R (Kd.int .i64) 2 w' w.heap.size (fun _ => True) (.slice Ao5 x3_1.length co5) x3_1) ∧ Aside0 (Below w.heap.size w w'))
        case atStart => exact ⟨((x3_1.length : Int)), (by first | rfl | (simp; done) | (simp [*]; done)), H', ⟨Nat.le_refl _⟩, ⟨by (with_reducible repeat (first | apply Kd.R_alloc | apply Kd.R_drewN | apply Kd.R_drew)); exact HO_3.out⟩, ⟨by repeat (first | (with_reducible first | exact HB.out | apply below_alloc | apply pw_below_drewN | apply below_drew1) | exact HB.out)⟩⟩
        case round =>
          clear H'
          try clear p2
          try clear c4
          try clear c4b0
          try clear p2
          obtain ⟨x5_2, rfl, HA, HK2, HO_3, HB⟩ := hrel
          cases gk with
          | zero => exact absurd HA.out (by simp [spec_l14Order.l1])
          | succ k2 =>
            have H := HA.out
            clear HA
            simp only [spec_l14Order.l1] at H
            by_cases c6 : x5_2 > 0
            · rw [if_pos c6] at H
              have c6b0 : decide (0 < x5_2) = true := decide_eq_true c6
              clear c6
              obtain ⟨ji7, hji7⟩ : ∃ j_ : Int, (wrap64 (x5_2 - 1)) = j_ := ⟨_, rfl⟩
              replace H : (if 0 ≤ (ji7) then (if (ji7) < (x3_1.length : Int) then (if 0 ≤ (rd x3_1 (ji7)) then (if (rd x3_1 (ji7)) < (l0.length : Int) then (if 0 ≤ x4_1 then (if x4_1 < (l0.length : Int) then (if (rd l0 (rd x3_1 (ji7))) < (rd l0 x4_1) then (spec_l14Order.l1 k2 l0 x3_1 x4_1 ji7) else (if 0 ≤ x5_2 then (if x5_2 ≤ (x3_1.length : Int) then ((spec_l00Own.f (x3_1.take (x5_2 : Int).toNat)).bind fun t111 => (if t111.length < 17592186044416 then ((some (t111 ++ [x4_1] : List Int)).bind fun y114 => ((some (x3_1.drop (x5_2 : Int).toNat : List Int)).bind fun y117 => (if y114.length + y117.length < 17592186044416 then (spec_l14Order.l0 k2 l0 (y114 ++ y117) (wrap64 (x4_1 + 1))) else (none)))) else (none))) else (none)) else (none))) else (none)) else (none)) else (none)) else (none)) else (none)) else (none)) = some r := by first | (rw [hji7] at H; exact H) | (simp only [hji7] at H ⊢; exact H)
              have hji7w : (IntKind.i64.wrap (x5_2 - 1)) = ji7 := (i64_w _).trans hji7
              by_cases c8 : 0 ≤ (ji7)
              · rw [if_pos c8] at H
                have c8b0 : decide (0 ≤ (ji7)) = true := decide_eq_true c8
                clear c8
                by_cases c9 : (ji7) < (x3_1.length : Int)
                · rw [if_pos c9] at H
                  have c9b0 : decide ((ji7) < (x3_1.length : Int)) = true := decide_eq_true c9
                  clear c9
                  by_cases c10 : 0 ≤ (rd x3_1 (ji7))
                  · rw [if_pos c10] at H
                    have c10b0 : decide (0 ≤ (rd x3_1 (ji7))) = true := decide_eq_true c10
                    clear c10
                    by_cases c11 : (rd x3_1 (ji7)) < (l0.length : Int)
                    · rw [if_pos c11] at H
                      have c11b0 : decide ((rd x3_1 (ji7)) < (l0.length : Int)) = true := decide_eq_true c11
                      clear c11
                      by_cases c12 : 0 ≤ x4_1
                      · rw [if_pos c12] at H
                        have c12b0 : decide (0 ≤ x4_1) = true := decide_eq_true c12
                        clear c12
                        by_cases c13 : x4_1 < (l0.length : Int)
                        · rw [if_pos c13] at H
                          have c13b0 : decide (x4_1 < (l0.length : Int)) = true := decide_eq_true c13
                          clear c13
                          by_cases c14 : (rd l0 (rd x3_1 (ji7))) < (rd l0 x4_1)
                          · rw [if_pos c14] at H
                            have c14b0 : decide ((rd l0 (rd x3_1 (ji7))) < (rd l0 x4_1)) = true := decide_eq_true c14
                            clear c14
                            have H' := Aside0.mk H
                            clear H
                            have p104 : 0 ≤ ((ji7) : Int) := of_decide_eq_true (by first | (with_reducible assumption) | assumption)
                            have q104 : (ji7) < (x3_1.length : Int) := of_decide_eq_true (by first | (with_reducible assumption) | assumption)
                            obtain ⟨ad104, e104, hx104_0⟩ := Kd.at_int (Kd.R_reads' HO_3.out).2.2 (ji7) p104 q104
                            cases e104
                            replace p104 := eq_true p104
                            replace q104 := eq_true q104
                            have p105 : 0 ≤ ((rd x3_1 (ji7)) : Int) := of_decide_eq_true (by first | (with_reducible assumption) | assumption)
                            have q105 : (rd x3_1 (ji7)) < (l0.length : Int) := of_decide_eq_true (by first | (with_reducible assumption) | assumption)
                            obtain ⟨ad105, e105, hx105_0⟩ := Kd.at_int HR0.out (rd x3_1 (ji7)) p105 q105
                            cases e105
                            replace hx105_0 := (HB.out.cell (World.block_lt_of_cell? w _ hx105_0)).trans hx105_0
                            replace p105 := eq_true p105
                            replace q105 := eq_true q105
                            have p106 : 0 ≤ (x4_1 : Int) := of_decide_eq_true (by first | (with_reducible assumption) | assumption)
                            have q106 : x4_1 < (l0.length : Int) := of_decide_eq_true (by first | (with_reducible assumption) | assumption)
                            obtain ⟨ad106, e106, hx106_0⟩ := Kd.at_int HR0.out x4_1 p106 q106
                            obtain rfl : ad105 = ad106 := (by injection e106)
                            replace hx106_0 := (HB.out.cell (World.block_lt_of_cell? w _ hx106_0)).trans hx106_0
                            replace p106 := eq_true p106
                            replace q106 := eq_true q106
                            go_wp2
                            repeat (go_quiet (fail); try go_wp2)
                            go_roundg k2
                            case measure => have := HK1.out; have := HK2.out; omega
                            case rel => exact ⟨(ji7), (by first | rfl | (simp; done) | (simp only [← hji7] <;> (first | rfl | simp)) | (simp [*]; done)), H', ⟨by have := HK1.out; have := HK2.out; omega⟩, ⟨by (with_reducible repeat (first | apply Kd.R_alloc | apply Kd.R_drewN | apply Kd.R_drew)); exact HO_3.out⟩, ⟨by repeat (first | (with_reducible first | exact HB.out | apply below_alloc | apply pw_below_drewN | apply below_drew1) | exact HB.out)⟩⟩
                          · rw [if_neg c14] at H
                            have c14b0 : decide ((rd l0 (rd x3_1 (ji7))) < (rd l0 x4_1)) = false := decide_eq_false c14
                            clear c14
                            by_cases c15 : 0 ≤ x5_2
                            · rw [if_pos c15] at H
                              have c15b0 := eq_true c15
                              have c15b1 : decide (0 ≤ x5_2) = true := decide_eq_true c15
                              clear c15
                              by_cases c16 : x5_2 ≤ (x3_1.length : Int)
                              · rw [if_pos c16] at H
                                have c16b0 := eq_true c16
                                have c16b1 : decide (x5_2 ≤ (x3_1.length : Int)) = true := decide_eq_true c16
                                clear c16
                                obtain ⟨y107, hy107⟩ : ∃ y_ : List Int, y_ = (x3_1.take (x5_2 : Int).toNat) := ⟨_, rfl⟩
                                replace H : ((spec_l00Own.f y107).bind fun t111 => (if t111.length < 17592186044416 then ((some (t111 ++ [x4_1] : List Int)).bind fun y114 => ((some (x3_1.drop (x5_2 : Int).toNat : List Int)).bind fun y117 => (if y114.length + y117.length < 17592186044416 then (spec_l14Order.l0 k2 l0 (y114 ++ y117) (wrap64 (x4_1 + 1))) else (none)))) else (none))) = some r := by first | (rw [hy107]; with_reducible exact H) | (have H2_ := (Option.bind_some _ _).symm.trans H; rw [hy107]; with_reducible exact H2_) | (have H2_ := (Option.bind_some _ _).symm.trans H; with_reducible exact H2_) | with_reducible exact H | (rw [hy107]; exact H) | exact H
                                have Ny107 := Aside0.mk hy107
                                clear hy107
                                replace H := Option.bind_eq_some_iff.mp H
                                obtain ⟨t111, A170, H⟩ := H
                                replace H : (if t111.length < 17592186044416 then ((some (t111 ++ [x4_1] : List Int)).bind fun y114 => ((some (x3_1.drop (x5_2 : Int).toNat : List Int)).bind fun y117 => (if y114.length + y117.length < 17592186044416 then (spec_l14Order.l0 k2 l0 (y114 ++ y117) (wrap64 (x4_1 + 1))) else (none)))) else (none)) = some r := H
                                have A17 := Aside0.mk A170
                                clear A170
                                by_cases c18 : t111.length < 17592186044416
                                · rw [if_pos c18] at H
                                  have LMc18 := Aside0.mk c18
                                  clear c18
                                  obtain ⟨y114, hy114⟩ : ∃ y_ : List Int, y_ = (t111 ++ [x4_1]) := ⟨_, rfl⟩
                                  replace H : ((some (x3_1.drop (x5_2 : Int).toNat : List Int)).bind fun y117 => (if y114.length + y117.length < 17592186044416 then (spec_l14Order.l0 k2 l0 (y114 ++ y117) (wrap64 (x4_1 + 1))) else (none))) = some r := by first | (rw [hy114]; with_reducible exact H) | (have H2_ := (Option.bind_some _ _).symm.trans H; rw [hy114]; with_reducible exact H2_) | (have H2_ := (Option.bind_some _ _).symm.trans H; with_reducible exact H2_) | with_reducible exact H | (rw [hy114]; exact H) | exact H
                                  have Ny114 := Aside0.mk hy114
                                  clear hy114
                                  have c19b0 := eq_true (of_decide_eq_true (by first | (with_reducible assumption) | assumption) : 0 ≤ x5_2)
                                  have c20b0 := eq_true (of_decide_eq_true (by first | (with_reducible assumption) | assumption) : x5_2 ≤ (x3_1.length : Int))
                                  obtain ⟨y117, hy117⟩ : ∃ y_ : List Int, y_ = (x3_1.drop (x5_2 : Int).toNat) := ⟨_, rfl⟩
                                  replace H : (if y114.length + y117.length < 17592186044416 then (spec_l14Order.l0 k2 l0 (y114 ++ y117) (wrap64 (x4_1 + 1))) else (none)) = some r := by first | (rw [hy117]; with_reducible exact H) | (have H2_ := (Option.bind_some _ _).symm.trans H; rw [hy117]; with_reducible exact H2_) | (have H2_ := (Option.bind_some _ _).symm.trans H; with_reducible exact H2_) | with_reducible exact H | (rw [hy117]; exact H) | exact H
                                  have Ny117 := Aside0.mk hy117
                                  clear hy117
                                  by_cases c21 : y114.length + y117.length < 17592186044416
                                  · rw [if_pos c21] at H
                                    have LMc21 := Aside0.mk c21
                                    clear c21
                                    obtain ⟨y121, hy121⟩ : ∃ y_ : List Int, y_ = (y114 ++ y117) := ⟨_, rfl⟩
                                    replace H : (spec_l14Order.l0 k2 l0 y121 (wrap64 (x4_1 + 1))) = some r := by first | (rw [hy121]; with_reducible exact H) | (have H2_ := (Option.bind_some _ _).symm.trans H; rw [hy121]; with_reducible exact H2_) | (have H2_ := (Option.bind_some _ _).symm.trans H; with_reducible exact H2_) | with_reducible exact H | (rw [hy121]; exact H) | exact H
                                    have Ny121 := Aside0.mk hy121
                                    clear hy121
                                    have H' := Aside0.mk H
                                    clear H
                                    have p104 : 0 ≤ ((ji7) : Int) := of_decide_eq_true (by first | (with_reducible assumption) | assumption)
                                    have q104 : (ji7) < (x3_1.length : Int) := of_decide_eq_true (by first | (with_reducible assumption) | assumption)
                                    obtain ⟨ad104, e104, hx104_0⟩ := Kd.at_int (Kd.R_reads' HO_3.out).2.2 (ji7) p104 q104
                                    cases e104
                                    replace p104 := eq_true p104
                                    replace q104 := eq_true q104
                                    have p105 : 0 ≤ ((rd x3_1 (ji7)) : Int) := of_decide_eq_true (by first | (with_reducible assumption) | assumption)
                                    have q105 : (rd x3_1 (ji7)) < (l0.length : Int) := of_decide_eq_true (by first | (with_reducible assumption) | assumption)
                                    obtain ⟨ad105, e105, hx105_0⟩ := Kd.at_int HR0.out (rd x3_1 (ji7)) p105 q105
                                    cases e105
                                    replace hx105_0 := (HB.out.cell (World.block_lt_of_cell? w _ hx105_0)).trans hx105_0
                                    replace p105 := eq_true p105
                                    replace q105 := eq_true q105
                                    have p106 : 0 ≤ (x4_1 : Int) := of_decide_eq_true (by first | (with_reducible assumption) | assumption)
                                    have q106 : x4_1 < (l0.length : Int) := of_decide_eq_true (by first | (with_reducible assumption) | assumption)
                                    obtain ⟨ad106, e106, hx106_0⟩ := Kd.at_int HR0.out x4_1 p106 q106
                                    obtain rfl : ad105 = ad106 := (by injection e106)
                                    replace hx106_0 := (HB.out.cell (World.block_lt_of_cell? w _ hx106_0)).trans hx106_0
                                    replace p106 := eq_true p106
                                    replace q106 := eq_true q106
                                    have q22 : (x5_2 : Int) ≤ ((x3_1.length : Int) : Int) := of_decide_eq_true (by first | (with_reducible assumption) | assumption)
                                    obtain ⟨i022, hi022, _, hsz22, _⟩ := info_parts info2
                                    have hroom22 : x3_1.length ≤ co5 := (Kd.R_reads' HO_3.out).2.1
                                    have hC22 : Kd.C (Kd.int .i64) _ (some ad104) x3_1.length x3_1 := (Kd.R_reads' HO_3.out).2.2
                                    have hcut22 := cut_to (P := Try.prog) 22 2 .i64 Try.underlying22 hi022 (some ad104) x3_1.length co5 x5_2 (of_decide_eq_true (by first | (with_reducible assumption) | assumption)) q22 hroom22
                                    have hr22 := Kd.C_take (m := (x5_2 : Int).toNat) hC22 (by omega)
                                    have hy22 : y107.length = (x5_2 : Int).toNat := (by rw [Ny107.out, List.length_take]; omega)
                                    rw [← Ny107.out] at hr22
                                    rw [← hy22] at hcut22
                                    have HR110 := Aside0.mk hr22
                                    have HC110 := Aside0.mk (show y107.length ≤ co5 from by omega)
                                    clear hr22 hC22 hroom22 hi022 hsz22
                                    have KY22 := Aside0.mk hy22
                                    clear hy22
                                    have KL22 := Aside0.mk (show (x5_2 : Int).toNat ≤ x3_1.length from by omega)
                                    replace q22 := eq_true q22
                                    go_wp2_with (first | (go_at_call 96; (with_reducible refine (spec_l00Own.calls _ _ y107 t111 _ ?side1 ?side2 A17.out).mono ?_); (case side1 => repeat (first | exact (by repeat (first | (with_reducible exact HR110.out) | (with_reducible refine Kd.C_alloc ?_ _) | (with_reducible refine Kd.C_drewN ?_ _) | (with_reducible refine Kd.C_drew ?_) | exact HR110.out)) | (with_reducible refine Kd.C_alloc ?_ _) | (with_reducible refine Kd.C_drewN ?_ _) | (with_reducible refine Kd.C_drew ?_))); (case side2 => exact HC110.out); rintro e w23 ⟨v112, rfl, ho0, hb⟩; have n0_ := Aside0.mk (Kd.R_elder' (by (with_reducible repeat (first | apply Kd.R_alloc | apply Kd.R_drewN | apply Kd.R_drew)); exact HO_3.out) (Kd.R_base ho0) hb); have n1_ := Aside0.mk (Kd.R_lower (Kd.R_new' ho0 (Kd.R_lt (by (with_reducible repeat (first | apply Kd.R_alloc | apply Kd.R_drewN | apply Kd.R_drew)); exact HO_3.out))) (below_size (by repeat (first | (with_reducible first | exact HB.out | apply below_alloc | apply pw_below_drewN | apply below_drew1) | exact HB.out)))); have n2_ := Aside0.mk (Kd.C_below (by repeat (first | (with_reducible exact HR110.out) | (with_reducible refine Kd.C_alloc ?_ _) | (with_reducible refine Kd.C_drewN ?_ _) | (with_reducible refine Kd.C_drew ?_) | exact HR110.out)) hb); have n3_ := Aside0.mk (below_step (by repeat (first | (with_reducible first | exact HB.out | apply below_alloc | apply pw_below_drewN | apply below_drew1) | exact HB.out)) hb); clear HO_3; clear HR110; clear HB; have HO_3 := n0_; have HO113 := n1_; have HR110 := n2_; have HB := n3_; clear n0_ n1_ n2_ n3_; (try clear hb); (try clear hb2); (try clear hk); (try clear hi); (try clear ho0)) | ((with_reducible refine gate_builtin (b := .append) (xs := #[.tmp 39, .tmp 41]) rfl ?_); at_builtin; refine Kd.R_append (Kd.int .i64) (w0 := w) w.heap.size rfl (.tmp 39) (.tmp 41) 22 2 (.int .i64 0) 8 rfl Try.underlying22 info2 rfl (by decide) (by omega) v112 t111 x4_1 [.int .i64 x4_1] (fun k_ => some k_ ≠ (.slice (some ad104) x3_1.length co5 : Value).ownBlock) (fun _ => False) rfl rfl ?aP (fun _ hk => hk.elim) ?aF ?aO ?aB ?aS ?aL ?_; (case aP => exact rfl); (case aB => exact (by repeat (first | (with_reducible first | exact HB.out | apply below_alloc | apply pw_below_drewN | apply below_drew1) | exact HB.out))); (case aF => exact (fun k_ hk => Kd.fresh' (Kd.R_lt (by (with_reducible repeat (first | apply Kd.R_alloc | apply Kd.R_drewN | apply Kd.R_drew)); exact HO_3.out)) k_ hk)); (case aO => exact (by (with_reducible repeat (first | apply Kd.R_alloc | apply Kd.R_drewN | apply Kd.R_drew)); exact Kd.R_mono HO113.out (fun _ hk => hk.2))); (case aS => exact (below_size (by repeat (first | (with_reducible first | exact HB.out | apply below_alloc | apply pw_below_drewN | apply below_drew1) | exact HB.out)))); (case aL => have := LMc18.out; omega); intro v115 w24 ho hb hg hat; rw [← Ny114.out] at ho; have n0_ := Aside0.mk (Kd.R_after (ok := (fun _ => True)) (by (with_reducible repeat (first | apply Kd.R_alloc | apply Kd.R_drewN | apply Kd.R_drew)); exact HO_3.out) hg hat); have n1_ := Aside0.mk (hb); have n2_ := Aside0.mk ((show Kd.C (Kd.int .i64) w24 (some ad104) y107.length y107 from by rw [Ny107.out]; exact Kd.C_take (m := (x5_2 : Int).toNat) ((Kd.R_reads' (Kd.R_after (ok := (fun _ => True)) (by (with_reducible repeat (first | apply Kd.R_alloc | apply Kd.R_drewN | apply Kd.R_drew)); exact HO_3.out) hg hat)).2.2) KL22.out)); have n3_ := Aside0.mk (ho); clear HO_3; clear HB; clear HR110; clear HO113; have HO_3 := n0_; have HB := n1_; have HR110 := n2_; have HO116 := n3_; clear n0_ n1_ n2_ n3_; clear ho hb hg hat; have q25 : (x5_2 : Int) ≤ ((x3_1.length : Int) : Int) := of_decide_eq_true (by first | (with_reducible assumption) | assumption); obtain ⟨i025, hi025, _, hsz25, _⟩ := info_parts info2; have hroom25 : x3_1.length ≤ co5 := (Kd.R_reads' HO_3.out).2.1; have hC25 : Kd.C (Kd.int .i64) _ (some ad104) x3_1.length x3_1 := (Kd.R_reads' HO_3.out).2.2; have q025 : (0 : Int) ≤ (x5_2 : Int) := of_decide_eq_true (by first | (with_reducible assumption) | assumption); have hcut25 := cut_from (P := Try.prog) 22 2 .i64 Try.underlying22 hi025 1 hsz25 (some ad104) x3_1.length co5 x5_2 q025 q25; have hr25 := Kd.C_drop (m := (x5_2 : Int).toNat) (c := co5) hC25 (by omega) hroom25; obtain ⟨A25, hA25⟩ : ∃ A1, A1 = (if co5 = (x5_2 : Int).toNat then (some ad104) else ((some ad104) : Option Addr).map (·.add ((x5_2 : Int).toNat * 1))) := ⟨_, rfl⟩; obtain ⟨c25, hc25⟩ : ∃ c1, c1 = co5 - (x5_2 : Int).toNat := ⟨_, rfl⟩; have hy25 : y117.length = x3_1.length - (x5_2 : Int).toNat := (by rw [Ny117.out, List.length_drop] <;> omega); rw [show (x3_1).drop (x5_2 : Int).toNat = y117 from Ny117.out.symm] at hr25; replace hr25 : Kd.C (Kd.int .i64) _ A25 y117.length y117 := (by rw [hA25]; exact hr25); rw [← hy25, ← hA25, ← hc25] at hcut25; have HR120 := Aside0.mk hr25; have HC120 := Aside0.mk (show y117.length ≤ c25 from by rw [hy25, hc25]; exact Nat.sub_le_sub_right hroom25 _); clear hr25 hC25 hroom25 hi025 hsz25 hc25; have KY25 := Aside0.mk hy25; have KA25 := Aside0.mk hA25; clear hy25 hA25; have KL25 := Aside0.mk (show (x5_2 : Int).toNat ≤ x3_1.length from by omega); replace q25 := eq_true q25) | ((with_reducible refine gate_builtin (b := .append) (xs := #[.tmp 43, .tmp 46]) rfl ?_); at_builtin; refine Kd.R_append_rows (Kd.int .i64) (w0 := w) w.heap.size rfl (.tmp 43) (.tmp 46) 22 2 (.int .i64 0) 8 rfl Try.underlying22 info2 rfl (by decide) (by omega) v115 y114 y117 _ _ _ (fun k_ => some k_ ≠ (.slice (some ad104) x3_1.length co5 : Value).ownBlock) (fun _ => False) rfl rfl ?aO ?aR (fun _ _ h => h) (fun _ h => h.elim) ?aF ?aB ?aS ?aL ?_; (case aR => repeat (first | exact (by repeat (first | (with_reducible exact HR120.out) | (with_reducible refine Kd.C_alloc ?_ _) | (with_reducible refine Kd.C_drewN ?_ _) | (with_reducible refine Kd.C_drew ?_) | exact HR120.out)) | (with_reducible refine Kd.C_alloc ?_ _) | (with_reducible refine Kd.C_drewN ?_ _) | (with_reducible refine Kd.C_drew ?_))); (case aB => exact (by repeat (first | (with_reducible first | exact HB.out | apply below_alloc | apply pw_below_drewN | apply below_drew1) | exact HB.out))); (case aF => exact (fun k_ hk => Kd.fresh' (Kd.R_lt (by (with_reducible repeat (first | apply Kd.R_alloc | apply Kd.R_drewN | apply Kd.R_drew)); exact HO_3.out)) k_ hk)); (case aO => exact (by (with_reducible repeat (first | apply Kd.R_alloc | apply Kd.R_drewN | apply Kd.R_drew)); exact HO116.out)); (case aS => exact (below_size (by repeat (first | (with_reducible first | exact HB.out | apply below_alloc | apply pw_below_drewN | apply below_drew1) | exact HB.out)))); (case aL => have := LMc21.out; omega); intro v122 w26 ho hb hg hat; rw [← Ny121.out] at ho; have n0_ := Aside0.mk (Kd.R_after (ok := (fun _ => True)) (by (with_reducible repeat (first | apply Kd.R_alloc | apply Kd.R_drewN | apply Kd.R_drew)); exact HO_3.out) hg hat); have n1_ := Aside0.mk (hb); have n2_ := Aside0.mk ((show Kd.C (Kd.int .i64) w26 (some ad104) y107.length y107 from by rw [Ny107.out]; exact Kd.C_take (m := (x5_2 : Int).toNat) ((Kd.R_reads' (Kd.R_after (ok := (fun _ => True)) (by (with_reducible repeat (first | apply Kd.R_alloc | apply Kd.R_drewN | apply Kd.R_drew)); exact HO_3.out) hg hat)).2.2) KL22.out)); have n3_ := Aside0.mk ((show Kd.C (Kd.int .i64) w26 A25 y117.length y117 from by rw [Ny117.out, KA25.out]; exact Kd.C_drop (m := (x5_2 : Int).toNat) (c := co5) ((Kd.R_reads' (Kd.R_after (ok := (fun _ => True)) (by (with_reducible repeat (first | apply Kd.R_alloc | apply Kd.R_drewN | apply Kd.R_drew)); exact HO_3.out) hg hat)).2.2) KL25.out ((Kd.R_reads' (Kd.R_after (ok := (fun _ => True)) (by (with_reducible repeat (first | apply Kd.R_alloc | apply Kd.R_drewN | apply Kd.R_drew)); exact HO_3.out) hg hat)).2.1))); have n4_ := Aside0.mk (ho); clear HO_3; clear HB; clear HR110; clear HR120; clear HO116; have HO_3 := n0_; have HB := n1_; have HR110 := n2_; have HR120 := n3_; have HO123 := n4_; clear n0_ n1_ n2_ n3_ n4_; clear ho hb hg hat))
                                    repeat (go_quiet (first | (go_at_call 96; (with_reducible refine (spec_l00Own.calls _ _ y107 t111 _ ?side1 ?side2 A17.out).mono ?_); (case side1 => repeat (first | exact (by repeat (first | (with_reducible exact HR110.out) | (with_reducible refine Kd.C_alloc ?_ _) | (with_reducible refine Kd.C_drewN ?_ _) | (with_reducible refine Kd.C_drew ?_) | exact HR110.out)) | (with_reducible refine Kd.C_alloc ?_ _) | (with_reducible refine Kd.C_drewN ?_ _) | (with_reducible refine Kd.C_drew ?_))); (case side2 => exact HC110.out); rintro e w23 ⟨v112, rfl, ho0, hb⟩; have n0_ := Aside0.mk (Kd.R_elder' (by (with_reducible repeat (first | apply Kd.R_alloc | apply Kd.R_drewN | apply Kd.R_drew)); exact HO_3.out) (Kd.R_base ho0) hb); have n1_ := Aside0.mk (Kd.R_lower (Kd.R_new' ho0 (Kd.R_lt (by (with_reducible repeat (first | apply Kd.R_alloc | apply Kd.R_drewN | apply Kd.R_drew)); exact HO_3.out))) (below_size (by repeat (first | (with_reducible first | exact HB.out | apply below_alloc | apply pw_below_drewN | apply below_drew1) | exact HB.out)))); have n2_ := Aside0.mk (Kd.C_below (by repeat (first | (with_reducible exact HR110.out) | (with_reducible refine Kd.C_alloc ?_ _) | (with_reducible refine Kd.C_drewN ?_ _) | (with_reducible refine Kd.C_drew ?_) | exact HR110.out)) hb); have n3_ := Aside0.mk (below_step (by repeat (first | (with_reducible first | exact HB.out | apply below_alloc | apply pw_below_drewN | apply below_drew1) | exact HB.out)) hb); clear HO_3; clear HR110; clear HB; have HO_3 := n0_; have HO113 := n1_; have HR110 := n2_; have HB := n3_; clear n0_ n1_ n2_ n3_; (try clear hb); (try clear hb2); (try clear hk); (try clear hi); (try clear ho0)) | ((with_reducible refine gate_builtin (b := .append) (xs := #[.tmp 39, .tmp 41]) rfl ?_); at_builtin; refine Kd.R_append (Kd.int .i64) (w0 := w) w.heap.size rfl (.tmp 39) (.tmp 41) 22 2 (.int .i64 0) 8 rfl Try.underlying22 info2 rfl (by decide) (by omega) v112 t111 x4_1 [.int .i64 x4_1] (fun k_ => some k_ ≠ (.slice (some ad104) x3_1.length co5 : Value).ownBlock) (fun _ => False) rfl rfl ?aP (fun _ hk => hk.elim) ?aF ?aO ?aB ?aS ?aL ?_; (case aP => exact rfl); (case aB => exact (by repeat (first | (with_reducible first | exact HB.out | apply below_alloc | apply pw_below_drewN | apply below_drew1) | exact HB.out))); (case aF => exact (fun k_ hk => Kd.fresh' (Kd.R_lt (by (with_reducible repeat (first | apply Kd.R_alloc | apply Kd.R_drewN | apply Kd.R_drew)); exact HO_3.out)) k_ hk)); (case aO => exact (by (with_reducible repeat (first | apply Kd.R_alloc | apply Kd.R_drewN | apply Kd.R_drew)); exact Kd.R_mono HO113.out (fun _ hk => hk.2))); (case aS => exact (below_size (by repeat (first | (with_reducible first | exact HB.out | apply below_alloc | apply pw_below_drewN | apply below_drew1) | exact HB.out)))); (case aL => have := LMc18.out; omega); intro v115 w24 ho hb hg hat; rw [← Ny114.out] at ho; have n0_ := Aside0.mk (Kd.R_after (ok := (fun _ => True)) (by (with_reducible repeat (first | apply Kd.R_alloc | apply Kd.R_drewN | apply Kd.R_drew)); exact HO_3.out) hg hat); have n1_ := Aside0.mk (hb); have n2_ := Aside0.mk ((show Kd.C (Kd.int .i64) w24 (some ad104) y107.length y107 from by rw [Ny107.out]; exact Kd.C_take (m := (x5_2 : Int).toNat) ((Kd.R_reads' (Kd.R_after (ok := (fun _ => True)) (by (with_reducible repeat (first | apply Kd.R_alloc | apply Kd.R_drewN | apply Kd.R_drew)); exact HO_3.out) hg hat)).2.2) KL22.out)); have n3_ := Aside0.mk (ho); clear HO_3; clear HB; clear HR110; clear HO113; have HO_3 := n0_; have HB := n1_; have HR110 := n2_; have HO116 := n3_; clear n0_ n1_ n2_ n3_; clear ho hb hg hat; have q25 : (x5_2 : Int) ≤ ((x3_1.length : Int) : Int) := of_decide_eq_true (by first | (with_reducible assumption) | assumption); obtain ⟨i025, hi025, _, hsz25, _⟩ := info_parts info2; have hroom25 : x3_1.length ≤ co5 := (Kd.R_reads' HO_3.out).2.1; have hC25 : Kd.C (Kd.int .i64) _ (some ad104) x3_1.length x3_1 := (Kd.R_reads' HO_3.out).2.2; have q025 : (0 : Int) ≤ (x5_2 : Int) := of_decide_eq_true (by first | (with_reducible assumption) | assumption); have hcut25 := cut_from (P := Try.prog) 22 2 .i64 Try.underlying22 hi025 1 hsz25 (some ad104) x3_1.length co5 x5_2 q025 q25; have hr25 := Kd.C_drop (m := (x5_2 : Int).toNat) (c := co5) hC25 (by omega) hroom25; obtain ⟨A25, hA25⟩ : ∃ A1, A1 = (if co5 = (x5_2 : Int).toNat then (some ad104) else ((some ad104) : Option Addr).map (·.add ((x5_2 : Int).toNat * 1))) := ⟨_, rfl⟩; obtain ⟨c25, hc25⟩ : ∃ c1, c1 = co5 - (x5_2 : Int).toNat := ⟨_, rfl⟩; have hy25 : y117.length = x3_1.length - (x5_2 : Int).toNat := (by rw [Ny117.out, List.length_drop] <;> omega); rw [show (x3_1).drop (x5_2 : Int).toNat = y117 from Ny117.out.symm] at hr25; replace hr25 : Kd.C (Kd.int .i64) _ A25 y117.length y117 := (by rw [hA25]; exact hr25); rw [← hy25, ← hA25, ← hc25] at hcut25; have HR120 := Aside0.mk hr25; have HC120 := Aside0.mk (show y117.length ≤ c25 from by rw [hy25, hc25]; exact Nat.sub_le_sub_right hroom25 _); clear hr25 hC25 hroom25 hi025 hsz25 hc25; have KY25 := Aside0.mk hy25; have KA25 := Aside0.mk hA25; clear hy25 hA25; have KL25 := Aside0.mk (show (x5_2 : Int).toNat ≤ x3_1.length from by omega); replace q25 := eq_true q25) | ((with_reducible refine gate_builtin (b := .append) (xs := #[.tmp 43, .tmp 46]) rfl ?_); at_builtin; refine Kd.R_append_rows (Kd.int .i64) (w0 := w) w.heap.size rfl (.tmp 43) (.tmp 46) 22 2 (.int .i64 0) 8 rfl Try.underlying22 info2 rfl (by decide) (by omega) v115 y114 y117 _ _ _ (fun k_ => some k_ ≠ (.slice (some ad104) x3_1.length co5 : Value).ownBlock) (fun _ => False) rfl rfl ?aO ?aR (fun _ _ h => h) (fun _ h => h.elim) ?aF ?aB ?aS ?aL ?_; (case aR => repeat (first | exact (by repeat (first | (with_reducible exact HR120.out) | (with_reducible refine Kd.C_alloc ?_ _) | (with_reducible refine Kd.C_drewN ?_ _) | (with_reducible refine Kd.C_drew ?_) | exact HR120.out)) | (with_reducible refine Kd.C_alloc ?_ _) | (with_reducible refine Kd.C_drewN ?_ _) | (with_reducible refine Kd.C_drew ?_))); (case aB => exact (by repeat (first | (with_reducible first | exact HB.out | apply below_alloc | apply pw_below_drewN | apply below_drew1) | exact HB.out))); (case aF => exact (fun k_ hk => Kd.fresh' (Kd.R_lt (by (with_reducible repeat (first | apply Kd.R_alloc | apply Kd.R_drewN | apply Kd.R_drew)); exact HO_3.out)) k_ hk)); (case aO => exact (by (with_reducible repeat (first | apply Kd.R_alloc | apply Kd.R_drewN | apply Kd.R_drew)); exact HO116.out)); (case aS => exact (below_size (by repeat (first | (with_reducible first | exact HB.out | apply below_alloc | apply pw_below_drewN | apply below_drew1) | exact HB.out)))); (case aL => have := LMc21.out; omega); intro v122 w26 ho hb hg hat; rw [← Ny121.out] at ho; have n0_ := Aside0.mk (Kd.R_after (ok := (fun _ => True)) (by (with_reducible repeat (first | apply Kd.R_alloc | apply Kd.R_drewN | apply Kd.R_drew)); exact HO_3.out) hg hat); have n1_ := Aside0.mk (hb); have n2_ := Aside0.mk ((show Kd.C (Kd.int .i64) w26 (some ad104) y107.length y107 from by rw [Ny107.out]; exact Kd.C_take (m := (x5_2 : Int).toNat) ((Kd.R_reads' (Kd.R_after (ok := (fun _ => True)) (by (with_reducible repeat (first | apply Kd.R_alloc | apply Kd.R_drewN | apply Kd.R_drew)); exact HO_3.out) hg hat)).2.2) KL22.out)); have n3_ := Aside0.mk ((show Kd.C (Kd.int .i64) w26 A25 y117.length y117 from by rw [Ny117.out, KA25.out]; exact Kd.C_drop (m := (x5_2 : Int).toNat) (c := co5) ((Kd.R_reads' (Kd.R_after (ok := (fun _ => True)) (by (with_reducible repeat (first | apply Kd.R_alloc | apply Kd.R_drewN | apply Kd.R_drew)); exact HO_3.out) hg hat)).2.2) KL25.out ((Kd.R_reads' (Kd.R_after (ok := (fun _ => True)) (by (with_reducible repeat (first | apply Kd.R_alloc | apply Kd.R_drewN | apply Kd.R_drew)); exact HO_3.out) hg hat)).2.1))); have n4_ := Aside0.mk (ho); clear HO_3; clear HB; clear HR110; clear HR120; clear HO116; have HO_3 := n0_; have HB := n1_; have HR110 := n2_; have HR120 := n3_; have HO123 := n4_; clear n0_ n1_ n2_ n3_ n4_; clear ho hb hg hat)); try go_wp2_with (first | (go_at_call 96; (with_reducible refine (spec_l00Own.calls _ _ y107 t111 _ ?side1 ?side2 A17.out).mono ?_); (case side1 => repeat (first | exact (by repeat (first | (with_reducible exact HR110.out) | (with_reducible refine Kd.C_alloc ?_ _) | (with_reducible refine Kd.C_drewN ?_ _) | (with_reducible refine Kd.C_drew ?_) | exact HR110.out)) | (with_reducible refine Kd.C_alloc ?_ _) | (with_reducible refine Kd.C_drewN ?_ _) | (with_reducible refine Kd.C_drew ?_))); (case side2 => exact HC110.out); rintro e w23 ⟨v112, rfl, ho0, hb⟩; have n0_ := Aside0.mk (Kd.R_elder' (by (with_reducible repeat (first | apply Kd.R_alloc | apply Kd.R_drewN | apply Kd.R_drew)); exact HO_3.out) (Kd.R_base ho0) hb); have n1_ := Aside0.mk (Kd.R_lower (Kd.R_new' ho0 (Kd.R_lt (by (with_reducible repeat (first | apply Kd.R_alloc | apply Kd.R_drewN | apply Kd.R_drew)); exact HO_3.out))) (below_size (by repeat (first | (with_reducible first | exact HB.out | apply below_alloc | apply pw_below_drewN | apply below_drew1) | exact HB.out)))); have n2_ := Aside0.mk (Kd.C_below (by repeat (first | (with_reducible exact HR110.out) | (with_reducible refine Kd.C_alloc ?_ _) | (with_reducible refine Kd.C_drewN ?_ _) | (with_reducible refine Kd.C_drew ?_) | exact HR110.out)) hb); have n3_ := Aside0.mk (below_step (by repeat (first | (with_reducible first | exact HB.out | apply below_alloc | apply pw_below_drewN | apply below_drew1) | exact HB.out)) hb); clear HO_3; clear HR110; clear HB; have HO_3 := n0_; have HO113 := n1_; have HR110 := n2_; have HB := n3_; clear n0_ n1_ n2_ n3_; (try clear hb); (try clear hb2); (try clear hk); (try clear hi); (try clear ho0)) | ((with_reducible refine gate_builtin (b := .append) (xs := #[.tmp 39, .tmp 41]) rfl ?_); at_builtin; refine Kd.R_append (Kd.int .i64) (w0 := w) w.heap.size rfl (.tmp 39) (.tmp 41) 22 2 (.int .i64 0) 8 rfl Try.underlying22 info2 rfl (by decide) (by omega) v112 t111 x4_1 [.int .i64 x4_1] (fun k_ => some k_ ≠ (.slice (some ad104) x3_1.length co5 : Value).ownBlock) (fun _ => False) rfl rfl ?aP (fun _ hk => hk.elim) ?aF ?aO ?aB ?aS ?aL ?_; (case aP => exact rfl); (case aB => exact (by repeat (first | (with_reducible first | exact HB.out | apply below_alloc | apply pw_below_drewN | apply below_drew1) | exact HB.out))); (case aF => exact (fun k_ hk => Kd.fresh' (Kd.R_lt (by (with_reducible repeat (first | apply Kd.R_alloc | apply Kd.R_drewN | apply Kd.R_drew)); exact HO_3.out)) k_ hk)); (case aO => exact (by (with_reducible repeat (first | apply Kd.R_alloc | apply Kd.R_drewN | apply Kd.R_drew)); exact Kd.R_mono HO113.out (fun _ hk => hk.2))); (case aS => exact (below_size (by repeat (first | (with_reducible first | exact HB.out | apply below_alloc | apply pw_below_drewN | apply below_drew1) | exact HB.out)))); (case aL => have := LMc18.out; omega); intro v115 w24 ho hb hg hat; rw [← Ny114.out] at ho; have n0_ := Aside0.mk (Kd.R_after (ok := (fun _ => True)) (by (with_reducible repeat (first | apply Kd.R_alloc | apply Kd.R_drewN | apply Kd.R_drew)); exact HO_3.out) hg hat); have n1_ := Aside0.mk (hb); have n2_ := Aside0.mk ((show Kd.C (Kd.int .i64) w24 (some ad104) y107.length y107 from by rw [Ny107.out]; exact Kd.C_take (m := (x5_2 : Int).toNat) ((Kd.R_reads' (Kd.R_after (ok := (fun _ => True)) (by (with_reducible repeat (first | apply Kd.R_alloc | apply Kd.R_drewN | apply Kd.R_drew)); exact HO_3.out) hg hat)).2.2) KL22.out)); have n3_ := Aside0.mk (ho); clear HO_3; clear HB; clear HR110; clear HO113; have HO_3 := n0_; have HB := n1_; have HR110 := n2_; have HO116 := n3_; clear n0_ n1_ n2_ n3_; clear ho hb hg hat; have q25 : (x5_2 : Int) ≤ ((x3_1.length : Int) : Int) := of_decide_eq_true (by first | (with_reducible assumption) | assumption); obtain ⟨i025, hi025, _, hsz25, _⟩ := info_parts info2; have hroom25 : x3_1.length ≤ co5 := (Kd.R_reads' HO_3.out).2.1; have hC25 : Kd.C (Kd.int .i64) _ (some ad104) x3_1.length x3_1 := (Kd.R_reads' HO_3.out).2.2; have q025 : (0 : Int) ≤ (x5_2 : Int) := of_decide_eq_true (by first | (with_reducible assumption) | assumption); have hcut25 := cut_from (P := Try.prog) 22 2 .i64 Try.underlying22 hi025 1 hsz25 (some ad104) x3_1.length co5 x5_2 q025 q25; have hr25 := Kd.C_drop (m := (x5_2 : Int).toNat) (c := co5) hC25 (by omega) hroom25; obtain ⟨A25, hA25⟩ : ∃ A1, A1 = (if co5 = (x5_2 : Int).toNat then (some ad104) else ((some ad104) : Option Addr).map (·.add ((x5_2 : Int).toNat * 1))) := ⟨_, rfl⟩; obtain ⟨c25, hc25⟩ : ∃ c1, c1 = co5 - (x5_2 : Int).toNat := ⟨_, rfl⟩; have hy25 : y117.length = x3_1.length - (x5_2 : Int).toNat := (by rw [Ny117.out, List.length_drop] <;> omega); rw [show (x3_1).drop (x5_2 : Int).toNat = y117 from Ny117.out.symm] at hr25; replace hr25 : Kd.C (Kd.int .i64) _ A25 y117.length y117 := (by rw [hA25]; exact hr25); rw [← hy25, ← hA25, ← hc25] at hcut25; have HR120 := Aside0.mk hr25; have HC120 := Aside0.mk (show y117.length ≤ c25 from by rw [hy25, hc25]; exact Nat.sub_le_sub_right hroom25 _); clear hr25 hC25 hroom25 hi025 hsz25 hc25; have KY25 := Aside0.mk hy25; have KA25 := Aside0.mk hA25; clear hy25 hA25; have KL25 := Aside0.mk (show (x5_2 : Int).toNat ≤ x3_1.length from by omega); replace q25 := eq_true q25) | ((with_reducible refine gate_builtin (b := .append) (xs := #[.tmp 43, .tmp 46]) rfl ?_); at_builtin; refine Kd.R_append_rows (Kd.int .i64) (w0 := w) w.heap.size rfl (.tmp 43) (.tmp 46) 22 2 (.int .i64 0) 8 rfl Try.underlying22 info2 rfl (by decide) (by omega) v115 y114 y117 _ _ _ (fun k_ => some k_ ≠ (.slice (some ad104) x3_1.length co5 : Value).ownBlock) (fun _ => False) rfl rfl ?aO ?aR (fun _ _ h => h) (fun _ h => h.elim) ?aF ?aB ?aS ?aL ?_; (case aR => repeat (first | exact (by repeat (first | (with_reducible exact HR120.out) | (with_reducible refine Kd.C_alloc ?_ _) | (with_reducible refine Kd.C_drewN ?_ _) | (with_reducible refine Kd.C_drew ?_) | exact HR120.out)) | (with_reducible refine Kd.C_alloc ?_ _) | (with_reducible refine Kd.C_drewN ?_ _) | (with_reducible refine Kd.C_drew ?_))); (case aB => exact (by repeat (first | (with_reducible first | exact HB.out | apply below_alloc | apply pw_below_drewN | apply below_drew1) | exact HB.out))); (case aF => exact (fun k_ hk => Kd.fresh' (Kd.R_lt (by (with_reducible repeat (first | apply Kd.R_alloc | apply Kd.R_drewN | apply Kd.R_drew)); exact HO_3.out)) k_ hk)); (case aO => exact (by (with_reducible repeat (first | apply Kd.R_alloc | apply Kd.R_drewN | apply Kd.R_drew)); exact HO116.out)); (case aS => exact (below_size (by repeat (first | (with_reducible first | exact HB.out | apply below_alloc | apply pw_below_drewN | apply below_drew1) | exact HB.out)))); (case aL => have := LMc21.out; omega); intro v122 w26 ho hb hg hat; rw [← Ny121.out] at ho; have n0_ := Aside0.mk (Kd.R_after (ok := (fun _ => True)) (by (with_reducible repeat (first | apply Kd.R_alloc | apply Kd.R_drewN | apply Kd.R_drew)); exact HO_3.out) hg hat); have n1_ := Aside0.mk (hb); have n2_ := Aside0.mk ((show Kd.C (Kd.int .i64) w26 (some ad104) y107.length y107 from by rw [Ny107.out]; exact Kd.C_take (m := (x5_2 : Int).toNat) ((Kd.R_reads' (Kd.R_after (ok := (fun _ => True)) (by (with_reducible repeat (first | apply Kd.R_alloc | apply Kd.R_drewN | apply Kd.R_drew)); exact HO_3.out) hg hat)).2.2) KL22.out)); have n3_ := Aside0.mk ((show Kd.C (Kd.int .i64) w26 A25 y117.length y117 from by rw [Ny117.out, KA25.out]; exact Kd.C_drop (m := (x5_2 : Int).toNat) (c := co5) ((Kd.R_reads' (Kd.R_after (ok := (fun _ => True)) (by (with_reducible repeat (first | apply Kd.R_alloc | apply Kd.R_drewN | apply Kd.R_drew)); exact HO_3.out) hg hat)).2.2) KL25.out ((Kd.R_reads' (Kd.R_after (ok := (fun _ => True)) (by (with_reducible repeat (first | apply Kd.R_alloc | apply Kd.R_drewN | apply Kd.R_drew)); exact HO_3.out) hg hat)).2.1))); have n4_ := Aside0.mk (ho); clear HO_3; clear HB; clear HR110; clear HR120; clear HO116; have HO_3 := n0_; have HB := n1_; have HR110 := n2_; have HR120 := n3_; have HO123 := n4_; clear n0_ n1_ n2_ n3_ n4_; clear ho hb hg hat)))
                                    go_roundg k2
                                    case measure => have := HK1.out; have := HK2.out; omega
                                    case rel => exact ⟨(y121), (wrap64 (x4_1 + 1)), (by first | rfl | (simp; done) | (simp [*]; done)), H', ⟨by have := HK1.out; have := HK2.out; omega⟩, ⟨by (with_reducible repeat (first | apply Kd.R_alloc | apply Kd.R_drewN | apply Kd.R_drew)); exact Kd.R_mono HO123.out (fun _ hk => trivial)⟩, ⟨by repeat (first | (with_reducible first | exact HB.out | apply below_alloc | apply pw_below_drewN | apply below_drew1) | exact HB.out)⟩⟩
                                  · rw [if_neg c21] at H
                                    exact absurd H (by simp)
                                · rw [if_neg c18] at H
                                  exact absurd H (by simp)
                              · rw [if_neg c16] at H
                                exact absurd H (by simp)
                            · rw [if_neg c15] at H
                              exact absurd H (by simp)
                        · rw [if_neg c13] at H
                          exact absurd H (by simp)
                      · rw [if_neg c12] at H
                        exact absurd H (by simp)
                    · rw [if_neg c11] at H
                      exact absurd H (by simp)
                  · rw [if_neg c10] at H
                    exact absurd H (by simp)
                · rw [if_neg c9] at H
                  exact absurd H (by simp)
              · rw [if_neg c8] at H
                exact absurd H (by simp)
            · rw [if_neg c6] at H
              have c6b0 : decide (0 < x5_2) = false := decide_eq_false c6
              clear c6
              by_cases c27 : 0 ≤ x5_2
              · rw [if_pos c27] at H
                have c27b0 := eq_true c27
                have c27b1 : decide (0 ≤ x5_2) = true := decide_eq_true c27
                clear c27
                by_cases c28 : x5_2 ≤ (x3_1.length : Int)
                · rw [if_pos c28] at H
                  have c28b0 := eq_true c28
                  have c28b1 : decide (x5_2 ≤ (x3_1.length : Int)) = true := decide_eq_true c28
                  clear c28
                  obtain ⟨y124, hy124⟩ : ∃ y_ : List Int, y_ = (x3_1.take (x5_2 : Int).toNat) := ⟨_, rfl⟩
                  replace H : ((spec_l00Own.f y124).bind fun t128 => (if t128.length < 17592186044416 then ((some (t128 ++ [x4_1] : List Int)).bind fun y131 => ((some (x3_1.drop (x5_2 : Int).toNat : List Int)).bind fun y134 => (if y131.length + y134.length < 17592186044416 then (spec_l14Order.l0 k2 l0 (y131 ++ y134) (wrap64 (x4_1 + 1))) else (none)))) else (none))) = some r := by first | (rw [hy124]; with_reducible exact H) | (have H2_ := (Option.bind_some _ _).symm.trans H; rw [hy124]; with_reducible exact H2_) | (have H2_ := (Option.bind_some _ _).symm.trans H; with_reducible exact H2_) | with_reducible exact H | (rw [hy124]; exact H) | exact H
                  have Ny124 := Aside0.mk hy124
                  clear hy124
                  replace H := Option.bind_eq_some_iff.mp H
                  obtain ⟨t128, A290, H⟩ := H
                  replace H : (if t128.length < 17592186044416 then ((some (t128 ++ [x4_1] : List Int)).bind fun y131 => ((some (x3_1.drop (x5_2 : Int).toNat : List Int)).bind fun y134 => (if y131.length + y134.length < 17592186044416 then (spec_l14Order.l0 k2 l0 (y131 ++ y134) (wrap64 (x4_1 + 1))) else (none)))) else (none)) = some r := H
                  have A29 := Aside0.mk A290
                  clear A290
                  by_cases c30 : t128.length < 17592186044416
                  · rw [if_pos c30] at H
                    have LMc30 := Aside0.mk c30
                    clear c30
                    obtain ⟨y131, hy131⟩ : ∃ y_ : List Int, y_ = (t128 ++ [x4_1]) := ⟨_, rfl⟩
                    replace H : ((some (x3_1.drop (x5_2 : Int).toNat : List Int)).bind fun y134 => (if y131.length + y134.length < 17592186044416 then (spec_l14Order.l0 k2 l0 (y131 ++ y134) (wrap64 (x4_1 + 1))) else (none))) = some r := by first | (rw [hy131]; with_reducible exact H) | (have H2_ := (Option.bind_some _ _).symm.trans H; rw [hy131]; with_reducible exact H2_) | (have H2_ := (Option.bind_some _ _).symm.trans H; with_reducible exact H2_) | with_reducible exact H | (rw [hy131]; exact H) | exact H
                    have Ny131 := Aside0.mk hy131
                    clear hy131
                    have c31b0 := eq_true (of_decide_eq_true (by first | (with_reducible assumption) | assumption) : 0 ≤ x5_2)
                    have c32b0 := eq_true (of_decide_eq_true (by first | (with_reducible assumption) | assumption) : x5_2 ≤ (x3_1.length : Int))
                    obtain ⟨y134, hy134⟩ : ∃ y_ : List Int, y_ = (x3_1.drop (x5_2 : Int).toNat) := ⟨_, rfl⟩
                    replace H : (if y131.length + y134.length < 17592186044416 then (spec_l14Order.l0 k2 l0 (y131 ++ y134) (wrap64 (x4_1 + 1))) else (none)) = some r := by first | (rw [hy134]; with_reducible exact H) | (have H2_ := (Option.bind_some _ _).symm.trans H; rw [hy134]; with_reducible exact H2_) | (have H2_ := (Option.bind_some _ _).symm.trans H; with_reducible exact H2_) | with_reducible exact H | (rw [hy134]; exact H) | exact H
                    have Ny134 := Aside0.mk hy134
                    clear hy134
                    by_cases c33 : y131.length + y134.length < 17592186044416
                    · rw [if_pos c33] at H
                      have LMc33 := Aside0.mk c33
                      clear c33
                      obtain ⟨y138, hy138⟩ : ∃ y_ : List Int, y_ = (y131 ++ y134) := ⟨_, rfl⟩
                      replace H : (spec_l14Order.l0 k2 l0 y138 (wrap64 (x4_1 + 1))) = some r := by first | (rw [hy138]; with_reducible exact H) | (have H2_ := (Option.bind_some _ _).symm.trans H; rw [hy138]; with_reducible exact H2_) | (have H2_ := (Option.bind_some _ _).symm.trans H; with_reducible exact H2_) | with_reducible exact H | (rw [hy138]; exact H) | exact H
                      have Ny138 := Aside0.mk hy138
                      clear hy138
                      have H' := Aside0.mk H
                      clear H
                      have q34 : (x5_2 : Int) ≤ ((x3_1.length : Int) : Int) := of_decide_eq_true (by first | (with_reducible assumption) | assumption)
                      obtain ⟨i034, hi034, _, hsz34, _⟩ := info_parts info2
                      have hroom34 : x3_1.length ≤ co5 := (Kd.R_reads' HO_3.out).2.1
                      have hC34 : Kd.C (Kd.int .i64) _ Ao5 x3_1.length x3_1 := (Kd.R_reads' HO_3.out).2.2
                      have hcut34 := cut_to (P := Try.prog) 22 2 .i64 Try.underlying22 hi034 Ao5 x3_1.length co5 x5_2 (of_decide_eq_true (by first | (with_reducible assumption) | assumption)) q34 hroom34
                      have hr34 := Kd.C_take (m := (x5_2 : Int).toNat) hC34 (by omega)
                      have hy34 : y124.length = (x5_2 : Int).toNat := (by rw [Ny124.out, List.length_take]; omega)
                      rw [← Ny124.out] at hr34
                      rw [← hy34] at hcut34
                      have HR127 := Aside0.mk hr34
                      have HC127 := Aside0.mk (show y124.length ≤ co5 from by omega)
                      clear hr34 hC34 hroom34 hi034 hsz34
                      have KY34 := Aside0.mk hy34
                      clear hy34
                      have KL34 := Aside0.mk (show (x5_2 : Int).toNat ≤ x3_1.length from by omega)
                      replace q34 := eq_true q34
                      go_wp2_with (first | (go_at_call 96; (with_reducible refine (spec_l00Own.calls _ _ y124 t128 _ ?side1 ?side2 A29.out).mono ?_); (case side1 => repeat (first | exact (by repeat (first | (with_reducible exact HR127.out) | (with_reducible refine Kd.C_alloc ?_ _) | (with_reducible refine Kd.C_drewN ?_ _) | (with_reducible refine Kd.C_drew ?_) | exact HR127.out)) | (with_reducible refine Kd.C_alloc ?_ _) | (with_reducible refine Kd.C_drewN ?_ _) | (with_reducible refine Kd.C_drew ?_))); (case side2 => exact HC127.out); rintro e w35 ⟨v129, rfl, ho0, hb⟩; have n0_ := Aside0.mk (Kd.R_elder' (by (with_reducible repeat (first | apply Kd.R_alloc | apply Kd.R_drewN | apply Kd.R_drew)); exact HO_3.out) (Kd.R_base ho0) hb); have n1_ := Aside0.mk (Kd.R_lower (Kd.R_new' ho0 (Kd.R_lt (by (with_reducible repeat (first | apply Kd.R_alloc | apply Kd.R_drewN | apply Kd.R_drew)); exact HO_3.out))) (below_size (by repeat (first | (with_reducible first | exact HB.out | apply below_alloc | apply pw_below_drewN | apply below_drew1) | exact HB.out)))); have n2_ := Aside0.mk (Kd.C_below (by repeat (first | (with_reducible exact HR127.out) | (with_reducible refine Kd.C_alloc ?_ _) | (with_reducible refine Kd.C_drewN ?_ _) | (with_reducible refine Kd.C_drew ?_) | exact HR127.out)) hb); have n3_ := Aside0.mk (below_step (by repeat (first | (with_reducible first | exact HB.out | apply below_alloc | apply pw_below_drewN | apply below_drew1) | exact HB.out)) hb); clear HO_3; clear HR127; clear HB; have HO_3 := n0_; have HO130 := n1_; have HR127 := n2_; have HB := n3_; clear n0_ n1_ n2_ n3_; (try clear hb); (try clear hb2); (try clear hk); (try clear hi); (try clear ho0)) | ((with_reducible refine gate_builtin (b := .append) (xs := #[.tmp 39, .tmp 41]) rfl ?_); at_builtin; refine Kd.R_append (Kd.int .i64) (w0 := w) w.heap.size rfl (.tmp 39) (.tmp 41) 22 2 (.int .i64 0) 8 rfl Try.underlying22 info2 rfl (by decide) (by omega) v129 t128 x4_1 [.int .i64 x4_1] (fun k_ => some k_ ≠ (.slice Ao5 x3_1.length co5 : Value).ownBlock) (fun _ => False) rfl rfl ?aP (fun _ hk => hk.elim) ?aF ?aO ?aB ?aS ?aL ?_; (case aP => exact rfl); (case aB => exact (by repeat (first | (with_reducible first | exact HB.out | apply below_alloc | apply pw_below_drewN | apply below_drew1) | exact HB.out))); (case aF => exact (fun k_ hk => Kd.fresh' (Kd.R_lt (by (with_reducible repeat (first | apply Kd.R_alloc | apply Kd.R_drewN | apply Kd.R_drew)); exact HO_3.out)) k_ hk)); (case aO => exact (by (with_reducible repeat (first | apply Kd.R_alloc | apply Kd.R_drewN | apply Kd.R_drew)); exact Kd.R_mono HO130.out (fun _ hk => hk.2))); (case aS => exact (below_size (by repeat (first | (with_reducible first | exact HB.out | apply below_alloc | apply pw_below_drewN | apply below_drew1) | exact HB.out)))); (case aL => have := LMc30.out; omega); intro v132 w36 ho hb hg hat; rw [← Ny131.out] at ho; have n0_ := Aside0.mk (Kd.R_after (ok := (fun _ => True)) (by (with_reducible repeat (first | apply Kd.R_alloc | apply Kd.R_drewN | apply Kd.R_drew)); exact HO_3.out) hg hat); have n1_ := Aside0.mk (hb); have n2_ := Aside0.mk ((show Kd.C (Kd.int .i64) w36 Ao5 y124.length y124 from by rw [Ny124.out]; exact Kd.C_take (m := (x5_2 : Int).toNat) ((Kd.R_reads' (Kd.R_after (ok := (fun _ => True)) (by (with_reducible repeat (first | apply Kd.R_alloc | apply Kd.R_drewN | apply Kd.R_drew)); exact HO_3.out) hg hat)).2.2) KL34.out)); have n3_ := Aside0.mk (ho); clear HO_3; clear HB; clear HR127; clear HO130; have HO_3 := n0_; have HB := n1_; have HR127 := n2_; have HO133 := n3_; clear n0_ n1_ n2_ n3_; clear ho hb hg hat; have q37 : (x5_2 : Int) ≤ ((x3_1.length : Int) : Int) := of_decide_eq_true (by first | (with_reducible assumption) | assumption); obtain ⟨i037, hi037, _, hsz37, _⟩ := info_parts info2; have hroom37 : x3_1.length ≤ co5 := (Kd.R_reads' HO_3.out).2.1; have hC37 : Kd.C (Kd.int .i64) _ Ao5 x3_1.length x3_1 := (Kd.R_reads' HO_3.out).2.2; have q037 : (0 : Int) ≤ (x5_2 : Int) := of_decide_eq_true (by first | (with_reducible assumption) | assumption); have hcut37 := cut_from (P := Try.prog) 22 2 .i64 Try.underlying22 hi037 1 hsz37 Ao5 x3_1.length co5 x5_2 q037 q37; have hr37 := Kd.C_drop (m := (x5_2 : Int).toNat) (c := co5) hC37 (by omega) hroom37; obtain ⟨A37, hA37⟩ : ∃ A1, A1 = (if co5 = (x5_2 : Int).toNat then Ao5 else (Ao5 : Option Addr).map (·.add ((x5_2 : Int).toNat * 1))) := ⟨_, rfl⟩; obtain ⟨c37, hc37⟩ : ∃ c1, c1 = co5 - (x5_2 : Int).toNat := ⟨_, rfl⟩; have hy37 : y134.length = x3_1.length - (x5_2 : Int).toNat := (by rw [Ny134.out, List.length_drop] <;> omega); rw [show (x3_1).drop (x5_2 : Int).toNat = y134 from Ny134.out.symm] at hr37; replace hr37 : Kd.C (Kd.int .i64) _ A37 y134.length y134 := (by rw [hA37]; exact hr37); rw [← hy37, ← hA37, ← hc37] at hcut37; have HR137 := Aside0.mk hr37; have HC137 := Aside0.mk (show y134.length ≤ c37 from by rw [hy37, hc37]; exact Nat.sub_le_sub_right hroom37 _); clear hr37 hC37 hroom37 hi037 hsz37 hc37; have KY37 := Aside0.mk hy37; have KA37 := Aside0.mk hA37; clear hy37 hA37; have KL37 := Aside0.mk (show (x5_2 : Int).toNat ≤ x3_1.length from by omega); replace q37 := eq_true q37) | ((with_reducible refine gate_builtin (b := .append) (xs := #[.tmp 43, .tmp 46]) rfl ?_); at_builtin; refine Kd.R_append_rows (Kd.int .i64) (w0 := w) w.heap.size rfl (.tmp 43) (.tmp 46) 22 2 (.int .i64 0) 8 rfl Try.underlying22 info2 rfl (by decide) (by omega) v132 y131 y134 _ _ _ (fun k_ => some k_ ≠ (.slice Ao5 x3_1.length co5 : Value).ownBlock) (fun _ => False) rfl rfl ?aO ?aR (fun _ _ h => h) (fun _ h => h.elim) ?aF ?aB ?aS ?aL ?_; (case aR => repeat (first | exact (by repeat (first | (with_reducible exact HR137.out) | (with_reducible refine Kd.C_alloc ?_ _) | (with_reducible refine Kd.C_drewN ?_ _) | (with_reducible refine Kd.C_drew ?_) | exact HR137.out)) | (with_reducible refine Kd.C_alloc ?_ _) | (with_reducible refine Kd.C_drewN ?_ _) | (with_reducible refine Kd.C_drew ?_))); (case aB => exact (by repeat (first | (with_reducible first | exact HB.out | apply below_alloc | apply pw_below_drewN | apply below_drew1) | exact HB.out))); (case aF => exact (fun k_ hk => Kd.fresh' (Kd.R_lt (by (with_reducible repeat (first | apply Kd.R_alloc | apply Kd.R_drewN | apply Kd.R_drew)); exact HO_3.out)) k_ hk)); (case aO => exact (by (with_reducible repeat (first | apply Kd.R_alloc | apply Kd.R_drewN | apply Kd.R_drew)); exact HO133.out)); (case aS => exact (below_size (by repeat (first | (with_reducible first | exact HB.out | apply below_alloc | apply pw_below_drewN | apply below_drew1) | exact HB.out)))); (case aL => have := LMc33.out; omega); intro v139 w38 ho hb hg hat; rw [← Ny138.out] at ho; have n0_ := Aside0.mk (Kd.R_after (ok := (fun _ => True)) (by (with_reducible repeat (first | apply Kd.R_alloc | apply Kd.R_drewN | apply Kd.R_drew)); exact HO_3.out) hg hat); have n1_ := Aside0.mk (hb); have n2_ := Aside0.mk ((show Kd.C (Kd.int .i64) w38 Ao5 y124.length y124 from by rw [Ny124.out]; exact Kd.C_take (m := (x5_2 : Int).toNat) ((Kd.R_reads' (Kd.R_after (ok := (fun _ => True)) (by (with_reducible repeat (first | apply Kd.R_alloc | apply Kd.R_drewN | apply Kd.R_drew)); exact HO_3.out) hg hat)).2.2) KL34.out)); have n3_ := Aside0.mk ((show Kd.C (Kd.int .i64) w38 A37 y134.length y134 from by rw [Ny134.out, KA37.out]; exact Kd.C_drop (m := (x5_2 : Int).toNat) (c := co5) ((Kd.R_reads' (Kd.R_after (ok := (fun _ => True)) (by (with_reducible repeat (first | apply Kd.R_alloc | apply Kd.R_drewN | apply Kd.R_drew)); exact HO_3.out) hg hat)).2.2) KL37.out ((Kd.R_reads' (Kd.R_after (ok := (fun _ => True)) (by (with_reducible repeat (first | apply Kd.R_alloc | apply Kd.R_drewN | apply Kd.R_drew)); exact HO_3.out) hg hat)).2.1))); have n4_ := Aside0.mk (ho); clear HO_3; clear HB; clear HR127; clear HR137; clear HO133; have HO_3 := n0_; have HB := n1_; have HR127 := n2_; have HR137 := n3_; have HO140 := n4_; clear n0_ n1_ n2_ n3_ n4_; clear ho hb hg hat))
                      repeat (go_quiet (first | (go_at_call 96; (with_reducible refine (spec_l00Own.calls _ _ y124 t128 _ ?side1 ?side2 A29.out).mono ?_); (case side1 => repeat (first | exact (by repeat (first | (with_reducible exact HR127.out) | (with_reducible refine Kd.C_alloc ?_ _) | (with_reducible refine Kd.C_drewN ?_ _) | (with_reducible refine Kd.C_drew ?_) | exact HR127.out)) | (with_reducible refine Kd.C_alloc ?_ _) | (with_reducible refine Kd.C_drewN ?_ _) | (with_reducible refine Kd.C_drew ?_))); (case side2 => exact HC127.out); rintro e w35 ⟨v129, rfl, ho0, hb⟩; have n0_ := Aside0.mk (Kd.R_elder' (by (with_reducible repeat (first | apply Kd.R_alloc | apply Kd.R_drewN | apply Kd.R_drew)); exact HO_3.out) (Kd.R_base ho0) hb); have n1_ := Aside0.mk (Kd.R_lower (Kd.R_new' ho0 (Kd.R_lt (by (with_reducible repeat (first | apply Kd.R_alloc | apply Kd.R_drewN | apply Kd.R_drew)); exact HO_3.out))) (below_size (by repeat (first | (with_reducible first | exact HB.out | apply below_alloc | apply pw_below_drewN | apply below_drew1) | exact HB.out)))); have n2_ := Aside0.mk (Kd.C_below (by repeat (first | (with_reducible exact HR127.out) | (with_reducible refine Kd.C_alloc ?_ _) | (with_reducible refine Kd.C_drewN ?_ _) | (with_reducible refine Kd.C_drew ?_) | exact HR127.out)) hb); have n3_ := Aside0.mk (below_step (by repeat (first | (with_reducible first | exact HB.out | apply below_alloc | apply pw_below_drewN | apply below_drew1) | exact HB.out)) hb); clear HO_3; clear HR127; clear HB; have HO_3 := n0_; have HO130 := n1_; have HR127 := n2_; have HB := n3_; clear n0_ n1_ n2_ n3_; (try clear hb); (try clear hb2); (try clear hk); (try clear hi); (try clear ho0)) | ((with_reducible refine gate_builtin (b := .append) (xs := #[.tmp 39, .tmp 41]) rfl ?_); at_builtin; refine Kd.R_append (Kd.int .i64) (w0 := w) w.heap.size rfl (.tmp 39) (.tmp 41) 22 2 (.int .i64 0) 8 rfl Try.underlying22 info2 rfl (by decide) (by omega) v129 t128 x4_1 [.int .i64 x4_1] (fun k_ => some k_ ≠ (.slice Ao5 x3_1.length co5 : Value).ownBlock) (fun _ => False) rfl rfl ?aP (fun _ hk => hk.elim) ?aF ?aO ?aB ?aS ?aL ?_; (case aP => exact rfl); (case aB => exact (by repeat (first | (with_reducible first | exact HB.out | apply below_alloc | apply pw_below_drewN | apply below_drew1) | exact HB.out))); (case aF => exact (fun k_ hk => Kd.fresh' (Kd.R_lt (by (with_reducible repeat (first | apply Kd.R_alloc | apply Kd.R_drewN | apply Kd.R_drew)); exact HO_3.out)) k_ hk)); (case aO => exact (by (with_reducible repeat (first | apply Kd.R_alloc | apply Kd.R_drewN | apply Kd.R_drew)); exact Kd.R_mono HO130.out (fun _ hk => hk.2))); (case aS => exact (below_size (by repeat (first | (with_reducible first | exact HB.out | apply below_alloc | apply pw_below_drewN | apply below_drew1) | exact HB.out)))); (case aL => have := LMc30.out; omega); intro v132 w36 ho hb hg hat; rw [← Ny131.out] at ho; have n0_ := Aside0.mk (Kd.R_after (ok := (fun _ => True)) (by (with_reducible repeat (first | apply Kd.R_alloc | apply Kd.R_drewN | apply Kd.R_drew)); exact HO_3.out) hg hat); have n1_ := Aside0.mk (hb); have n2_ := Aside0.mk ((show Kd.C (Kd.int .i64) w36 Ao5 y124.length y124 from by rw [Ny124.out]; exact Kd.C_take (m := (x5_2 : Int).toNat) ((Kd.R_reads' (Kd.R_after (ok := (fun _ => True)) (by (with_reducible repeat (first | apply Kd.R_alloc | apply Kd.R_drewN | apply Kd.R_drew)); exact HO_3.out) hg hat)).2.2) KL34.out)); have n3_ := Aside0.mk (ho); clear HO_3; clear HB; clear HR127; clear HO130; have HO_3 := n0_; have HB := n1_; have HR127 := n2_; have HO133 := n3_; clear n0_ n1_ n2_ n3_; clear ho hb hg hat; have q37 : (x5_2 : Int) ≤ ((x3_1.length : Int) : Int) := of_decide_eq_true (by first | (with_reducible assumption) | assumption); obtain ⟨i037, hi037, _, hsz37, _⟩ := info_parts info2; have hroom37 : x3_1.length ≤ co5 := (Kd.R_reads' HO_3.out).2.1; have hC37 : Kd.C (Kd.int .i64) _ Ao5 x3_1.length x3_1 := (Kd.R_reads' HO_3.out).2.2; have q037 : (0 : Int) ≤ (x5_2 : Int) := of_decide_eq_true (by first | (with_reducible assumption) | assumption); have hcut37 := cut_from (P := Try.prog) 22 2 .i64 Try.underlying22 hi037 1 hsz37 Ao5 x3_1.length co5 x5_2 q037 q37; have hr37 := Kd.C_drop (m := (x5_2 : Int).toNat) (c := co5) hC37 (by omega) hroom37; obtain ⟨A37, hA37⟩ : ∃ A1, A1 = (if co5 = (x5_2 : Int).toNat then Ao5 else (Ao5 : Option Addr).map (·.add ((x5_2 : Int).toNat * 1))) := ⟨_, rfl⟩; obtain ⟨c37, hc37⟩ : ∃ c1, c1 = co5 - (x5_2 : Int).toNat := ⟨_, rfl⟩; have hy37 : y134.length = x3_1.length - (x5_2 : Int).toNat := (by rw [Ny134.out, List.length_drop] <;> omega); rw [show (x3_1).drop (x5_2 : Int).toNat = y134 from Ny134.out.symm] at hr37; replace hr37 : Kd.C (Kd.int .i64) _ A37 y134.length y134 := (by rw [hA37]; exact hr37); rw [← hy37, ← hA37, ← hc37] at hcut37; have HR137 := Aside0.mk hr37; have HC137 := Aside0.mk (show y134.length ≤ c37 from by rw [hy37, hc37]; exact Nat.sub_le_sub_right hroom37 _); clear hr37 hC37 hroom37 hi037 hsz37 hc37; have KY37 := Aside0.mk hy37; have KA37 := Aside0.mk hA37; clear hy37 hA37; have KL37 := Aside0.mk (show (x5_2 : Int).toNat ≤ x3_1.length from by omega); replace q37 := eq_true q37) | ((with_reducible refine gate_builtin (b := .append) (xs := #[.tmp 43, .tmp 46]) rfl ?_); at_builtin; refine Kd.R_append_rows (Kd.int .i64) (w0 := w) w.heap.size rfl (.tmp 43) (.tmp 46) 22 2 (.int .i64 0) 8 rfl Try.underlying22 info2 rfl (by decide) (by omega) v132 y131 y134 _ _ _ (fun k_ => some k_ ≠ (.slice Ao5 x3_1.length co5 : Value).ownBlock) (fun _ => False) rfl rfl ?aO ?aR (fun _ _ h => h) (fun _ h => h.elim) ?aF ?aB ?aS ?aL ?_; (case aR => repeat (first | exact (by repeat (first | (with_reducible exact HR137.out) | (with_reducible refine Kd.C_alloc ?_ _) | (with_reducible refine Kd.C_drewN ?_ _) | (with_reducible refine Kd.C_drew ?_) | exact HR137.out)) | (with_reducible refine Kd.C_alloc ?_ _) | (with_reducible refine Kd.C_drewN ?_ _) | (with_reducible refine Kd.C_drew ?_))); (case aB => exact (by repeat (first | (with_reducible first | exact HB.out | apply below_alloc | apply pw_below_drewN | apply below_drew1) | exact HB.out))); (case aF => exact (fun k_ hk => Kd.fresh' (Kd.R_lt (by (with_reducible repeat (first | apply Kd.R_alloc | apply Kd.R_drewN | apply Kd.R_drew)); exact HO_3.out)) k_ hk)); (case aO => exact (by (with_reducible repeat (first | apply Kd.R_alloc | apply Kd.R_drewN | apply Kd.R_drew)); exact HO133.out)); (case aS => exact (below_size (by repeat (first | (with_reducible first | exact HB.out | apply below_alloc | apply pw_below_drewN | apply below_drew1) | exact HB.out)))); (case aL => have := LMc33.out; omega); intro v139 w38 ho hb hg hat; rw [← Ny138.out] at ho; have n0_ := Aside0.mk (Kd.R_after (ok := (fun _ => True)) (by (with_reducible repeat (first | apply Kd.R_alloc | apply Kd.R_drewN | apply Kd.R_drew)); exact HO_3.out) hg hat); have n1_ := Aside0.mk (hb); have n2_ := Aside0.mk ((show Kd.C (Kd.int .i64) w38 Ao5 y124.length y124 from by rw [Ny124.out]; exact Kd.C_take (m := (x5_2 : Int).toNat) ((Kd.R_reads' (Kd.R_after (ok := (fun _ => True)) (by (with_reducible repeat (first | apply Kd.R_alloc | apply Kd.R_drewN | apply Kd.R_drew)); exact HO_3.out) hg hat)).2.2) KL34.out)); have n3_ := Aside0.mk ((show Kd.C (Kd.int .i64) w38 A37 y134.length y134 from by rw [Ny134.out, KA37.out]; exact Kd.C_drop (m := (x5_2 : Int).toNat) (c := co5) ((Kd.R_reads' (Kd.R_after (ok := (fun _ => True)) (by (with_reducible repeat (first | apply Kd.R_alloc | apply Kd.R_drewN | apply Kd.R_drew)); exact HO_3.out) hg hat)).2.2) KL37.out ((Kd.R_reads' (Kd.R_after (ok := (fun _ => True)) (by (with_reducible repeat (first | apply Kd.R_alloc | apply Kd.R_drewN | apply Kd.R_drew)); exact HO_3.out) hg hat)).2.1))); have n4_ := Aside0.mk (ho); clear HO_3; clear HB; clear HR127; clear HR137; clear HO133; have HO_3 := n0_; have HB := n1_; have HR127 := n2_; have HR137 := n3_; have HO140 := n4_; clear n0_ n1_ n2_ n3_ n4_; clear ho hb hg hat)); try go_wp2_with (first | (go_at_call 96; (with_reducible refine (spec_l00Own.calls _ _ y124 t128 _ ?side1 ?side2 A29.out).mono ?_); (case side1 => repeat (first | exact (by repeat (first | (with_reducible exact HR127.out) | (with_reducible refine Kd.C_alloc ?_ _) | (with_reducible refine Kd.C_drewN ?_ _) | (with_reducible refine Kd.C_drew ?_) | exact HR127.out)) | (with_reducible refine Kd.C_alloc ?_ _) | (with_reducible refine Kd.C_drewN ?_ _) | (with_reducible refine Kd.C_drew ?_))); (case side2 => exact HC127.out); rintro e w35 ⟨v129, rfl, ho0, hb⟩; have n0_ := Aside0.mk (Kd.R_elder' (by (with_reducible repeat (first | apply Kd.R_alloc | apply Kd.R_drewN | apply Kd.R_drew)); exact HO_3.out) (Kd.R_base ho0) hb); have n1_ := Aside0.mk (Kd.R_lower (Kd.R_new' ho0 (Kd.R_lt (by (with_reducible repeat (first | apply Kd.R_alloc | apply Kd.R_drewN | apply Kd.R_drew)); exact HO_3.out))) (below_size (by repeat (first | (with_reducible first | exact HB.out | apply below_alloc | apply pw_below_drewN | apply below_drew1) | exact HB.out)))); have n2_ := Aside0.mk (Kd.C_below (by repeat (first | (with_reducible exact HR127.out) | (with_reducible refine Kd.C_alloc ?_ _) | (with_reducible refine Kd.C_drewN ?_ _) | (with_reducible refine Kd.C_drew ?_) | exact HR127.out)) hb); have n3_ := Aside0.mk (below_step (by repeat (first | (with_reducible first | exact HB.out | apply below_alloc | apply pw_below_drewN | apply below_drew1) | exact HB.out)) hb); clear HO_3; clear HR127; clear HB; have HO_3 := n0_; have HO130 := n1_; have HR127 := n2_; have HB := n3_; clear n0_ n1_ n2_ n3_; (try clear hb); (try clear hb2); (try clear hk); (try clear hi); (try clear ho0)) | ((with_reducible refine gate_builtin (b := .append) (xs := #[.tmp 39, .tmp 41]) rfl ?_); at_builtin; refine Kd.R_append (Kd.int .i64) (w0 := w) w.heap.size rfl (.tmp 39) (.tmp 41) 22 2 (.int .i64 0) 8 rfl Try.underlying22 info2 rfl (by decide) (by omega) v129 t128 x4_1 [.int .i64 x4_1] (fun k_ => some k_ ≠ (.slice Ao5 x3_1.length co5 : Value).ownBlock) (fun _ => False) rfl rfl ?aP (fun _ hk => hk.elim) ?aF ?aO ?aB ?aS ?aL ?_; (case aP => exact rfl); (case aB => exact (by repeat (first | (with_reducible first | exact HB.out | apply below_alloc | apply pw_below_drewN | apply below_drew1) | exact HB.out))); (case aF => exact (fun k_ hk => Kd.fresh' (Kd.R_lt (by (with_reducible repeat (first | apply Kd.R_alloc | apply Kd.R_drewN | apply Kd.R_drew)); exact HO_3.out)) k_ hk)); (case aO => exact (by (with_reducible repeat (first | apply Kd.R_alloc | apply Kd.R_drewN | apply Kd.R_drew)); exact Kd.R_mono HO130.out (fun _ hk => hk.2))); (case aS => exact (below_size (by repeat (first | (with_reducible first | exact HB.out | apply below_alloc | apply pw_below_drewN | apply below_drew1) | exact HB.out)))); (case aL => have := LMc30.out; omega); intro v132 w36 ho hb hg hat; rw [← Ny131.out] at ho; have n0_ := Aside0.mk (Kd.R_after (ok := (fun _ => True)) (by (with_reducible repeat (first | apply Kd.R_alloc | apply Kd.R_drewN | apply Kd.R_drew)); exact HO_3.out) hg hat); have n1_ := Aside0.mk (hb); have n2_ := Aside0.mk ((show Kd.C (Kd.int .i64) w36 Ao5 y124.length y124 from by rw [Ny124.out]; exact Kd.C_take (m := (x5_2 : Int).toNat) ((Kd.R_reads' (Kd.R_after (ok := (fun _ => True)) (by (with_reducible repeat (first | apply Kd.R_alloc | apply Kd.R_drewN | apply Kd.R_drew)); exact HO_3.out) hg hat)).2.2) KL34.out)); have n3_ := Aside0.mk (ho); clear HO_3; clear HB; clear HR127; clear HO130; have HO_3 := n0_; have HB := n1_; have HR127 := n2_; have HO133 := n3_; clear n0_ n1_ n2_ n3_; clear ho hb hg hat; have q37 : (x5_2 : Int) ≤ ((x3_1.length : Int) : Int) := of_decide_eq_true (by first | (with_reducible assumption) | assumption); obtain ⟨i037, hi037, _, hsz37, _⟩ := info_parts info2; have hroom37 : x3_1.length ≤ co5 := (Kd.R_reads' HO_3.out).2.1; have hC37 : Kd.C (Kd.int .i64) _ Ao5 x3_1.length x3_1 := (Kd.R_reads' HO_3.out).2.2; have q037 : (0 : Int) ≤ (x5_2 : Int) := of_decide_eq_true (by first | (with_reducible assumption) | assumption); have hcut37 := cut_from (P := Try.prog) 22 2 .i64 Try.underlying22 hi037 1 hsz37 Ao5 x3_1.length co5 x5_2 q037 q37; have hr37 := Kd.C_drop (m := (x5_2 : Int).toNat) (c := co5) hC37 (by omega) hroom37; obtain ⟨A37, hA37⟩ : ∃ A1, A1 = (if co5 = (x5_2 : Int).toNat then Ao5 else (Ao5 : Option Addr).map (·.add ((x5_2 : Int).toNat * 1))) := ⟨_, rfl⟩; obtain ⟨c37, hc37⟩ : ∃ c1, c1 = co5 - (x5_2 : Int).toNat := ⟨_, rfl⟩; have hy37 : y134.length = x3_1.length - (x5_2 : Int).toNat := (by rw [Ny134.out, List.length_drop] <;> omega); rw [show (x3_1).drop (x5_2 : Int).toNat = y134 from Ny134.out.symm] at hr37; replace hr37 : Kd.C (Kd.int .i64) _ A37 y134.length y134 := (by rw [hA37]; exact hr37); rw [← hy37, ← hA37, ← hc37] at hcut37; have HR137 := Aside0.mk hr37; have HC137 := Aside0.mk (show y134.length ≤ c37 from by rw [hy37, hc37]; exact Nat.sub_le_sub_right hroom37 _); clear hr37 hC37 hroom37 hi037 hsz37 hc37; have KY37 := Aside0.mk hy37; have KA37 := Aside0.mk hA37; clear hy37 hA37; have KL37 := Aside0.mk (show (x5_2 : Int).toNat ≤ x3_1.length from by omega); replace q37 := eq_true q37) | ((with_reducible refine gate_builtin (b := .append) (xs := #[.tmp 43, .tmp 46]) rfl ?_); at_builtin; refine Kd.R_append_rows (Kd.int .i64) (w0 := w) w.heap.size rfl (.tmp 43) (.tmp 46) 22 2 (.int .i64 0) 8 rfl Try.underlying22 info2 rfl (by decide) (by omega) v132 y131 y134 _ _ _ (fun k_ => some k_ ≠ (.slice Ao5 x3_1.length co5 : Value).ownBlock) (fun _ => False) rfl rfl ?aO ?aR (fun _ _ h => h) (fun _ h => h.elim) ?aF ?aB ?aS ?aL ?_; (case aR => repeat (first | exact (by repeat (first | (with_reducible exact HR137.out) | (with_reducible refine Kd.C_alloc ?_ _) | (with_reducible refine Kd.C_drewN ?_ _) | (with_reducible refine Kd.C_drew ?_) | exact HR137.out)) | (with_reducible refine Kd.C_alloc ?_ _) | (with_reducible refine Kd.C_drewN ?_ _) | (with_reducible refine Kd.C_drew ?_))); (case aB => exact (by repeat (first | (with_reducible first | exact HB.out | apply below_alloc | apply pw_below_drewN | apply below_drew1) | exact HB.out))); (case aF => exact (fun k_ hk => Kd.fresh' (Kd.R_lt (by (with_reducible repeat (first | apply Kd.R_alloc | apply Kd.R_drewN | apply Kd.R_drew)); exact HO_3.out)) k_ hk)); (case aO => exact (by (with_reducible repeat (first | apply Kd.R_alloc | apply Kd.R_drewN | apply Kd.R_drew)); exact HO133.out)); (case aS => exact (below_size (by repeat (first | (with_reducible first | exact HB.out | apply below_alloc | apply pw_below_drewN | apply below_drew1) | exact HB.out)))); (case aL => have := LMc33.out; omega); intro v139 w38 ho hb hg hat; rw [← Ny138.out] at ho; have n0_ := Aside0.mk (Kd.R_after (ok := (fun _ => True)) (by (with_reducible repeat (first | apply Kd.R_alloc | apply Kd.R_drewN | apply Kd.R_drew)); exact HO_3.out) hg hat); have n1_ := Aside0.mk (hb); have n2_ := Aside0.mk ((show Kd.C (Kd.int .i64) w38 Ao5 y124.length y124 from by rw [Ny124.out]; exact Kd.C_take (m := (x5_2 : Int).toNat) ((Kd.R_reads' (Kd.R_after (ok := (fun _ => True)) (by (with_reducible repeat (first | apply Kd.R_alloc | apply Kd.R_drewN | apply Kd.R_drew)); exact HO_3.out) hg hat)).2.2) KL34.out)); have n3_ := Aside0.mk ((show Kd.C (Kd.int .i64) w38 A37 y134.length y134 from by rw [Ny134.out, KA37.out]; exact Kd.C_drop (m := (x5_2 : Int).toNat) (c := co5) ((Kd.R_reads' (Kd.R_after (ok := (fun _ => True)) (by (with_reducible repeat (first | apply Kd.R_alloc | apply Kd.R_drewN | apply Kd.R_drew)); exact HO_3.out) hg hat)).2.2) KL37.out ((Kd.R_reads' (Kd.R_after (ok := (fun _ => True)) (by (with_reducible repeat (first | apply Kd.R_alloc | apply Kd.R_drewN | apply Kd.R_drew)); exact HO_3.out) hg hat)).2.1))); have n4_ := Aside0.mk (ho); clear HO_3; clear HB; clear HR127; clear HR137; clear HO133; have HO_3 := n0_; have HB := n1_; have HR127 := n2_; have HR137 := n3_; have HO140 := n4_; clear n0_ n1_ n2_ n3_ n4_; clear ho hb hg hat)))
                      go_roundg k2
                      case measure => have := HK1.out; have := HK2.out; omega
                      case rel => exact ⟨(y138), (wrap64 (x4_1 + 1)), (by first | rfl | (simp; done) | (simp [*]; done)), H', ⟨by have := HK1.out; have := HK2.out; omega⟩, ⟨by (with_reducible repeat (first | apply Kd.R_alloc | apply Kd.R_drewN | apply Kd.R_drew)); exact Kd.R_mono HO140.out (fun _ hk => trivial)⟩, ⟨by repeat (first | (with_reducible first | exact HB.out | apply below_alloc | apply pw_below_drewN | apply below_drew1) | exact HB.out)⟩⟩
                    · rw [if_neg c33] at H
                      exact absurd H (by simp)
                  · rw [if_neg c30] at H
                    exact absurd H (by simp)
                · rw [if_neg c28] at H
                  exact absurd H (by simp)
              · rw [if_neg c27] at H
                exact absurd H (by simp)
      · rw [if_neg c4] at H
        have c4b0 : decide (x4_1 < (l0.length : Int)) = false := decide_eq_false c4
        clear c4
        obtain rfl := Option.some.inj H
        go_wp2
        repeat (go_quiet (fail); try go_wp2)
        go_ret
        exact ⟨_, by first | rfl | (simp [errW_none, errW_some] <;> rfl) | (simp [*, errW_none, errW_some] <;> rfl), by (with_reducible repeat (first | apply Kd.R_alloc | apply Kd.R_drewN | apply Kd.R_drew)); exact HO_3.out, by repeat (first | (with_reducible first | exact HB.out | apply below_alloc | apply pw_below_drewN | apply below_drew1) | exact HB.out)⟩
end Go.Proofs.Yteafahnopgmgoaa.Q
namespace Go.Proofs.Yteafahnopgmgoaa.Q
open Go.RowKit Go.Proofs.YteafahnopgmgoaaW.PrintWords Go.Proofs.YteafahnopgmgoaaW.PrintLast Go.Proofs.YteafahnopgmgoaaW.PrintMore
attribute [local go_sem] max2_int min2_int max_two min_two max_three min_three max_four min_four
set_option linter.unusedVariables false
set_option linter.unusedSimpArgs false
mutual
def spec_RankedFeatures.j0 : Nat → List (S28) → Bool → ByteArray → List Int → Option (List Int × Int)
  | 0, _, _, _, _ => none
  | k + 1, x0, x14, x102000, x102001 => if x14 = true then (some (([] : List Int), 1)) else (spec_RankedFeatures.l0 k x0 (([] : List Int)) 0 x102000 x102001)
def spec_RankedFeatures.l0 : Nat → List (S28) → List Int → Int → ByteArray → List Int → Option (List Int × Int)
  | 0, _, _, _, _, _ => none
  | k + 1, x0, x6, x7, x102000, x102001 => if x7 < (x0.length : Int) then (if 0 ≤ x7 then ((spec_l26Away.f k [rd_T28 x0 x7] [(⟨x102000, x102001⟩ : S28)]).bind fun t108 => (if x6.length < 17592186044416 then (spec_RankedFeatures.l0 k x0 (x6 ++ [wrap64 (-t108)]) (wrap64 (x7 + 1)) x102000 x102001) else (none))) else (none)) else ((spec_l14Order.f k x6).bind fun t112 => (some (t112, 0)))
end
def spec_RankedFeatures.f (k : Nat) (l0 : List (S28)) (a1_0 : ByteArray) (l1_1 : List Int) : Option (List Int × Int) := (spec_l26Ok.f k l0).bind fun t102 => (if t102 = true then ((spec_l26One.f k [(⟨a1_0, l1_1⟩ : S28)]).bind fun t103 => (spec_RankedFeatures.j0 k l0 (!t103) a1_0 l1_1)) else (spec_RankedFeatures.j0 k l0 true a1_0 l1_1))
set_option maxHeartbeats 8000000 in
set_option maxRecDepth 100000 in
theorem spec_RankedFeatures.calls (k : Nat) (A0 : Option Addr) (c0 : Nat) (l0 : List (S28)) (a1_0 : ByteArray) (A1_1 : Option Addr) (c1_1 : Nat) (l1_1 : List Int) (r1 : List Int) (r2 : Int) (w : World) (hr0 : Kd.C k28 w A0 l0.length l0) (hc0 : l0.length ≤ c0) (hr1_1 : Kd.C (Kd.int .i64) w A1_1 l1_1.length l1_1) (hc1_1 : l1_1.length ≤ c1_1) (h : spec_RankedFeatures.f k l0 a1_0 l1_1 = some (r1, r2)) :
    Calls Try.prog 44 #[.slice A0 l0.length c0, .agg #[.string a1_0, .slice A1_1 l1_1.length c1_1]] w fun e w' => ∃ v0_ : Value, e = .returned (.tuple #[v0_, .int .i64 r2]) ∧ Kd.R (Kd.int .i64) 2 w' w.heap.size (fun _ => True) v0_ r1 ∧ Below w.heap.size w w' := by
  have hu28 := Try.underlying28
  have HR0 := Aside0.mk hr0
  have HC0 := Aside0.mk hc0
  clear hr0 hc0
  have HR1_1 := Aside0.mk hr1_1
  have HC1_1 := Aside0.mk hc1_1
  clear hr1_1 hc1_1
  have HB := Aside0.mk (Below.refl w.heap.size w)
  have H : ((spec_l26Ok.f k l0).bind fun t102 => (if t102 = true then ((spec_l26One.f k [(⟨a1_0, l1_1⟩ : S28)]).bind fun t103 => (spec_RankedFeatures.j0 k l0 (!t103) a1_0 l1_1)) else (spec_RankedFeatures.j0 k l0 true a1_0 l1_1))) = some (r1, r2) := h
  clear h
  have HC3 := Aside0.mk H
  clear H
  go_enter Try.func44, Try.ntmps44
  go_upto_region 1 with (first | ((with_reducible refine gate_dst (N := 3) rfl ?_); refine box_event ?hg (N := 3) ?hd (cs := #[.string a1_0, .slice A1_1 l1_1.length c1_1]) (t := 28) ?hr ?_; (case hd => rfl); (case hg => rfl); (case hr => first | (go_simp; done) | (go_simp; rfl)); intro gb101 hg w4 hbox hb; have n0_ := Aside0.mk (below_step (by repeat (first | (with_reducible first | exact HB.out | apply below_alloc | apply pw_below_drewN | apply below_drew1) | exact HB.out)) hb); have n1_ := Aside0.mk (hbox); have n2_ := Aside0.mk ((by rw [hg]; exact (below_size (by repeat (first | (with_reducible first | exact HB.out | apply below_alloc | apply pw_below_drewN | apply below_drew1) | exact HB.out))) : w.heap.size ≤ gb101)); have n3_ := Aside0.mk ((by rw [hg]; exact (below_size (by repeat (first | (with_reducible first | exact HB.out | apply below_alloc | apply pw_below_drewN | apply below_drew1) | exact HB.out))) : w.heap.size ≤ gb101)); clear HB; have HB := n0_; have BK101 := n1_; have GW101 := n2_; have GE101 := n3_; clear n0_ n1_ n2_ n3_; clear hb hbox hg))
  (try simp only [Act.put, List.setIfInBounds_toArray, List.set_cons_zero, List.set_cons_succ])
  go_cut [14] (fun v14 wc => ∃ (kq : Nat) (x14_2 : Bool), v14 = .bool x14_2 ∧ Aside0 (spec_RankedFeatures.j0 kq l0 x14_2 a1_0 l1_1 = some (r1, r2)) ∧ Aside0 (kq ≤ k) ∧ Aside0 (wc.heap[gb101]? = some (.cells #[.string a1_0, (.slice A1_1 l1_1.length c1_1)] 28 (0, 0))) ∧ Aside0 (Below w.heap.size w wc))
  case first =>
    have H := HC3.out
    clear HC3
    replace H := Option.bind_eq_some_iff.mp H
    obtain ⟨t102, A50, H⟩ := H
    replace H : (if t102 = true then ((spec_l26One.f k [(⟨a1_0, l1_1⟩ : S28)]).bind fun t103 => (spec_RankedFeatures.j0 k l0 (!t103) a1_0 l1_1)) else (spec_RankedFeatures.j0 k l0 true a1_0 l1_1)) = some (r1, r2) := H
    have A5 := Aside0.mk A50
    clear A50
    by_cases c6 : t102 = true
    · subst c6
      have H1 : ((spec_l26One.f k [(⟨a1_0, l1_1⟩ : S28)]).bind fun t103 => (spec_RankedFeatures.j0 k l0 (!t103) a1_0 l1_1)) = some (r1, r2) := by rw [if_pos rfl] at H; exact H
      clear H
      have H := H1
      clear H1
      replace H := Option.bind_eq_some_iff.mp H
      obtain ⟨t103, A70, H⟩ := H
      replace H : (spec_RankedFeatures.j0 k l0 (!t103) a1_0 l1_1) = some (r1, r2) := H
      have A7 := Aside0.mk A70
      clear A70
      have H' := Aside0.mk H
      clear H
      go_wp2_with (first | ((with_reducible refine gate_callee (f := 54) rfl ?_); refine goesL_ (some 9) rfl rfl Try.func54 (by kernel_rfl) rfl #[.slice A0 l0.length c0] rfl (by (try simp only [List.map_toArray, List.map_cons, List.map_nil]); first | done | rfl | (simp only [List.length_drop, List.length_take]; rfl)) ?_; (with_reducible refine (spec_l26Ok.calls k _ _ l0 true _ ?side1 ?side2 A5.out).mono ?_); (case side1 => repeat (first | exact (Kd.C_below HR0.out (by repeat (first | (with_reducible first | exact HB.out | apply below_alloc | apply pw_below_drewN | apply below_drew1 | refine below_set ?_ GE101.out) | exact HB.out))) | (with_reducible refine Kd.C_alloc ?_ _) | (with_reducible refine Kd.C_drewN ?_ _) | (with_reducible refine Kd.C_drew ?_))); (case side2 => exact HC0.out); rintro e w' ⟨rfl, ⟨nd, rfl⟩⟩; refine ⟨_, rfl, ?_⟩; (try (rw [drewN_self w4]; generalize hq_ : World.drewN w4 _ = w4; have n0_ : Aside0 (w4.heap[gb101]? = some (.cells #[.string a1_0, .slice A1_1 l1_1.length c1_1] 28 (0, 0))) := ⟨by rw [← hq_]; exact (by (with_reducible repeat (first | refine blk_drewN ?_ _ | refine blk_drew ?_ | refine blk_alloc ?_ _)); exact BK101.out)⟩; have n1_ : Aside0 (Below w.heap.size w w4) := ⟨by rw [← hq_]; exact (by repeat (first | (with_reducible first | exact HB.out | apply below_alloc | apply pw_below_drewN | apply below_drew1 | refine below_set ?_ GE101.out) | exact HB.out))⟩; clear BK101 HB hq_; have BK101 := n0_; have HB := n1_; clear n0_ n1_))) | (go_at_call 50; (with_reducible refine (spec_l26One.calls k _ [(⟨a1_0, l1_1⟩ : S28)] t103 _ ?side1 A7.out).mono ?_); (case side1 => exact (RPW.C_blk (cs := [.string a1_0, .slice A1_1 l1_1.length c1_1]) (t := 28) (g := gb101) (by (with_reducible repeat (first | refine blk_drewN ?_ _ | refine blk_drew ?_ | refine blk_alloc ?_ _)); exact BK101.out) (k28_mk _ (⟨a1_0, l1_1⟩ : S28) (by exact HC1_1.out) (by repeat (first | exact (Kd.C_below HR1_1.out HB.out) | (with_reducible refine Kd.C_alloc ?_ _) | (with_reducible refine Kd.C_drewN ?_ _) | (with_reducible refine Kd.C_drew ?_)))))); rintro e w' ⟨rfl, ⟨nd, rfl⟩⟩; (try (rw [drewN_self w4]; generalize hq_ : World.drewN w4 _ = w4; have n0_ : Aside0 (w4.heap[gb101]? = some (.cells #[.string a1_0, .slice A1_1 l1_1.length c1_1] 28 (0, 0))) := ⟨by rw [← hq_]; exact (by (with_reducible repeat (first | refine blk_drewN ?_ _ | refine blk_drew ?_ | refine blk_alloc ?_ _)); exact BK101.out)⟩; have n1_ : Aside0 (Below w.heap.size w w4) := ⟨by rw [← hq_]; exact (by repeat (first | (with_reducible first | exact HB.out | apply below_alloc | apply pw_below_drewN | apply below_drew1 | refine below_set ?_ GE101.out) | exact HB.out))⟩; clear BK101 HB hq_; have BK101 := n0_; have HB := n1_; clear n0_ n1_))))
      go_meet
      case rel => exact ⟨_, (!t103), (by first | rfl | (simp; done) | (simp [*]; done)), H', ⟨by first | omega | exact Nat.le_refl _⟩, ⟨by (with_reducible repeat (first | refine blk_drewN ?_ _ | refine blk_drew ?_ | refine blk_alloc ?_ _)); exact BK101.out⟩, ⟨by repeat (first | (with_reducible first | exact HB.out | apply below_alloc | apply pw_below_drewN | apply below_drew1 | refine below_set ?_ GE101.out) | exact HB.out)⟩⟩
    · replace c6 := Bool.eq_false_iff.mpr c6
      subst c6
      have H1 : (spec_RankedFeatures.j0 k l0 true a1_0 l1_1) = some (r1, r2) := by rw [if_neg (show ¬ (false = true) by decide)] at H; exact H
      clear H
      have H := H1
      clear H1
      have H' := Aside0.mk H
      clear H
      go_wp2_with (first | ((with_reducible refine gate_callee (f := 54) rfl ?_); refine goesL_ (some 9) rfl rfl Try.func54 (by kernel_rfl) rfl #[.slice A0 l0.length c0] rfl (by (try simp only [List.map_toArray, List.map_cons, List.map_nil]); first | done | rfl | (simp only [List.length_drop, List.length_take]; rfl)) ?_; (with_reducible refine (spec_l26Ok.calls k _ _ l0 false _ ?side1 ?side2 A5.out).mono ?_); (case side1 => repeat (first | exact (Kd.C_below HR0.out (by repeat (first | (with_reducible first | exact HB.out | apply below_alloc | apply pw_below_drewN | apply below_drew1 | refine below_set ?_ GE101.out) | exact HB.out))) | (with_reducible refine Kd.C_alloc ?_ _) | (with_reducible refine Kd.C_drewN ?_ _) | (with_reducible refine Kd.C_drew ?_))); (case side2 => exact HC0.out); rintro e w' ⟨rfl, ⟨nd, rfl⟩⟩; refine ⟨_, rfl, ?_⟩; (try (rw [drewN_self w4]; generalize hq_ : World.drewN w4 _ = w4; have n0_ : Aside0 (w4.heap[gb101]? = some (.cells #[.string a1_0, .slice A1_1 l1_1.length c1_1] 28 (0, 0))) := ⟨by rw [← hq_]; exact (by (with_reducible repeat (first | refine blk_drewN ?_ _ | refine blk_drew ?_ | refine blk_alloc ?_ _)); exact BK101.out)⟩; have n1_ : Aside0 (Below w.heap.size w w4) := ⟨by rw [← hq_]; exact (by repeat (first | (with_reducible first | exact HB.out | apply below_alloc | apply pw_below_drewN | apply below_drew1 | refine below_set ?_ GE101.out) | exact HB.out))⟩; clear BK101 HB hq_; have BK101 := n0_; have HB := n1_; clear n0_ n1_))))
      go_meet
      case rel => exact ⟨_, (true), (by first | rfl | (simp; done) | (simp [*]; done)), H', ⟨by first | omega | exact Nat.le_refl _⟩, ⟨by (with_reducible repeat (first | refine blk_drewN ?_ _ | refine blk_drew ?_ | refine blk_alloc ?_ _)); exact BK101.out⟩, ⟨by repeat (first | (with_reducible first | exact HB.out | apply below_alloc | apply pw_below_drewN | apply below_drew1 | refine below_set ?_ GE101.out) | exact HB.out)⟩⟩
  case rest =>
    clear HC3
    try clear c1
    try clear p2
    try clear c4
    try clear c5
    try clear c6
    obtain ⟨kq, x14_2, rfl, HA, HJ2, BK101, HB⟩ := hcut
    cases kq with
    | zero => exact absurd HA.out (by simp [spec_RankedFeatures.j0])
    | succ kj2 =>
      have H := HA.out
      clear HA
      simp only [spec_RankedFeatures.j0] at H
      by_cases c8 : x14_2 = true
      · subst c8
        have H1 : (some (([] : List Int), 1)) = some (r1, r2) := by rw [if_pos rfl] at H; exact H
        clear H
        have H := H1
        clear H1
        simp only [Option.some.injEq, Prod.mk.injEq] at H
        obtain ⟨rfl, rfl⟩ := H
        go_wp2
        go_ret2
        exact ⟨_, by first | rfl | (simp [errW_none, errW_some] <;> rfl) | (simp [*, errW_none, errW_some] <;> rfl), by first | exact Kd.R_nil _ _ _ _ _ | exact Kd.N_nil _ _ _ _ _ | exact Kd.V_nil _ _ _ _ _ | exact Kd.Q_nil _ _ _ _ _ | exact Kd.S_nil _ _ _ _ _, by repeat (first | (with_reducible first | exact HB.out | apply below_alloc | apply pw_below_drewN | apply below_drew1 | refine below_set ?_ GE101.out) | exact HB.out)⟩
      · replace c8 := Bool.eq_false_iff.mpr c8
        subst c8
        have H1 : (spec_RankedFeatures.l0 kj2 l0 (([] : List Int)) 0 a1_0 l1_1) = some (r1, r2) := by rw [if_neg (show ¬ (false = true) by decide)] at H; exact H
        clear H
        have H := H1
        clear H1
        obtain ⟨y104, hy104⟩ : ∃ y_ : List Int, y_ = (([] : List Int)) := ⟨_, rfl⟩
        replace H : (spec_RankedFeatures.l0 kj2 l0 y104 0 a1_0 l1_1) = some (r1, r2) := by first | (rw [hy104]; with_reducible exact H) | (have H2_ := (Option.bind_some _ _).symm.trans H; rw [hy104]; with_reducible exact H2_) | (have H2_ := (Option.bind_some _ _).symm.trans H; with_reducible exact H2_) | with_reducible exact H | (rw [hy104]; exact H) | exact H
        have Ny104 := Aside0.mk hy104
        clear hy104
        have H' := Aside0.mk H
        clear H
        go_wp2_with (first | ((with_reducible refine gate_dst (N := 15) rfl ?_); refine Kd.R_lit (Kd.int .i64) _ 2 ?hg (N := 15) ?hd (xs := ([] : List Int)) (inner := []) (ok := fun _ => True) (okp := fun _ => True) ?hr ?hp (fun _ hk => hk) trivial (Below.refl _ _) (Nat.le_refl _) (by simp) ?_; (case hd => rfl); (case hg => rfl); (case hr => first | (go_simp; done) | (go_simp; rfl)); (case hp => exact (Reps.none _ _)); intro v105 w9 ho10 hb hg_ hnew_; clear hg_ hnew_; (first | rw [← Ny104.out] at ho10 | (simp only [Int.reduceToNat] at ho10; rw [← Ny104.out] at ho10)); have n0_ := Aside0.mk (Kd.R_lower ho10 (below_size (by repeat (first | (with_reducible first | exact HB.out | apply below_alloc | apply pw_below_drewN | apply below_drew1 | refine below_set ?_ GE101.out) | exact HB.out)))); have n1_ := Aside0.mk (blk_below (g := gb101) (o := .cells #[.string a1_0, .slice A1_1 l1_1.length c1_1] 28 (0, 0)) (by (with_reducible repeat (first | refine blk_drewN ?_ _ | refine blk_drew ?_ | refine blk_alloc ?_ _)); exact BK101.out) hb); have n2_ := Aside0.mk (below_step (by repeat (first | (with_reducible first | exact HB.out | apply below_alloc | apply pw_below_drewN | apply below_drew1 | refine below_set ?_ GE101.out) | exact HB.out)) hb); clear BK101; clear HB; have HO106 := n0_; have BK101 := n1_; have HB := n2_; clear n0_ n1_ n2_; clear hb ho10))
        (try simp only [Act.put, List.setIfInBounds_toArray, List.set_cons_zero, List.set_cons_succ])
        go_loopg [6, 7] kj2 (fun kq v6 v7 w' => ∃ (x6_2 : List Int) (x7_2 : Int), v7 = .int .i64 x7_2 ∧ Aside0 (spec_RankedFeatures.l0 kq l0 x6_2 x7_2 a1_0 l1_1 = some (r1, r2)) ∧ Aside0 (kq ≤ kj2) ∧ Aside0 (Kd.R (Kd.int .i64) 2 w' w.heap.size (fun _ => True) v6 x6_2) ∧ Aside0 (w'.heap[gb101]? = some (.cells #[.string a1_0, (.slice A1_1 l1_1.length c1_1)] 28 (0, 0))) ∧ Aside0 (Below w.heap.size w w'))
        case atStart => exact ⟨(y104), (0), (by first | rfl | (simp; done) | (simp [*]; done)), H', ⟨Nat.le_refl _⟩, ⟨by (with_reducible repeat (first | apply Kd.R_alloc | apply Kd.R_drewN | apply Kd.R_drew)); exact HO106.out⟩, ⟨by (with_reducible repeat (first | refine blk_drewN ?_ _ | refine blk_drew ?_ | refine blk_alloc ?_ _)); exact BK101.out⟩, ⟨by repeat (first | (with_reducible first | exact HB.out | apply below_alloc | apply pw_below_drewN | apply below_drew1 | refine below_set ?_ GE101.out) | exact HB.out)⟩⟩
        case round =>
          clear H'
          try clear c1
          try clear p2
          try clear c4
          try clear c5
          try clear c6
          try clear c8
          try clear p2
          obtain ⟨x6_2, x7_2, rfl, HA, HK2, HO_6, BK101, HB⟩ := hrel
          cases gk with
          | zero => exact absurd HA.out (by simp [spec_RankedFeatures.l0])
          | succ k2 =>
            have H := HA.out
            clear HA
            simp only [spec_RankedFeatures.l0] at H
            by_cases c11 : x7_2 < (l0.length : Int)
            · rw [if_pos c11] at H
              have c11b0 : decide (x7_2 < (l0.length : Int)) = true := decide_eq_true c11
              clear c11
              by_cases c12 : 0 ≤ x7_2
              · rw [if_pos c12] at H
                have c12b0 : decide (0 ≤ x7_2) = true := decide_eq_true c12
                clear c12
                replace H := Option.bind_eq_some_iff.mp H
                obtain ⟨t108, A130, H⟩ := H
                replace H : (if x6_2.length < 17592186044416 then (spec_RankedFeatures.l0 k2 l0 (x6_2 ++ [wrap64 (-t108)]) (wrap64 (x7_2 + 1)) a1_0 l1_1) else (none)) = some (r1, r2) := H
                have A13 := Aside0.mk A130
                clear A130
                by_cases c14 : x6_2.length < 17592186044416
                · rw [if_pos c14] at H
                  have LMc14 := Aside0.mk c14
                  clear c14
                  obtain ⟨y109, hy109⟩ : ∃ y_ : List Int, y_ = (x6_2 ++ [wrap64 (-t108)]) := ⟨_, rfl⟩
                  replace H : (spec_RankedFeatures.l0 k2 l0 y109 (wrap64 (x7_2 + 1)) a1_0 l1_1) = some (r1, r2) := by first | (rw [hy109]; with_reducible exact H) | (have H2_ := (Option.bind_some _ _).symm.trans H; rw [hy109]; with_reducible exact H2_) | (have H2_ := (Option.bind_some _ _).symm.trans H; with_reducible exact H2_) | with_reducible exact H | (rw [hy109]; exact H) | exact H
                  have Ny109 := Aside0.mk hy109
                  clear hy109
                  have H' := Aside0.mk H
                  clear H
                  have p107 : 0 ≤ (x7_2 : Int) := of_decide_eq_true (by first | (with_reducible assumption) | assumption)
                  have q107 : x7_2 < (l0.length : Int) := of_decide_eq_true (by first | (with_reducible assumption) | assumption)
                  obtain ⟨ad107, A107_1, c107_1, e107, hx107_0, hx107_1, hl107_1, hi107_1⟩ := at_T28 HR0.out x7_2 p107 q107
                  cases e107
                  replace hx107_0 := (HB.out.cell (World.block_lt_of_cell? w _ hx107_0)).trans hx107_0
                  replace hx107_1 := (HB.out.cell (World.block_lt_of_cell? w _ hx107_1)).trans hx107_1
                  have HR107_1 := Aside0.mk hi107_1
                  have HC107_1 := Aside0.mk hl107_1
                  clear hi107_1 hl107_1
                  replace p107 := eq_true p107
                  replace q107 := eq_true q107
                  go_wp2_with (first | ((with_reducible refine gate_callee (f := 51) rfl ?_); refine goesL_ (some 26) rfl rfl Try.func51 (by kernel_rfl) rfl #[.pointer (some ((ad107.add ((x7_2 : Int).toNat * 2)).add 0)), .pointer (some (Addr.add ⟨gb101, 0, none⟩ 0))] rfl (by (try simp only [List.map_toArray, List.map_cons, List.map_nil]); first | done | rfl | (simp only [List.length_drop, List.length_take]; rfl)) ?_; (with_reducible refine (spec_l26Away.calls k2 _ [rd_T28 l0 x7_2] _ [(⟨a1_0, l1_1⟩ : S28)] t108 _ ?side1 ?side2 A13.out).mono ?_); (case side1 => exact (RPW.C_elem (ad := ad107) (n := l0.length) (xs := l0) z28 (i := x7_2) (by first | exact of_eq_true p107 | exact p107 | omega) (by first | exact of_eq_true q107 | exact q107 | omega) (by repeat (first | exact (Kd.C_below HR0.out (by repeat (first | (with_reducible first | exact HB.out | apply below_alloc | apply pw_below_drewN | apply below_drew1 | refine below_set ?_ GE101.out) | exact HB.out))) | (with_reducible refine Kd.C_alloc ?_ _) | (with_reducible refine Kd.C_drewN ?_ _) | (with_reducible refine Kd.C_drew ?_))))); (case side2 => exact (RPW.C_blk (cs := [.string a1_0, .slice A1_1 l1_1.length c1_1]) (t := 28) (g := gb101) (by (with_reducible repeat (first | refine blk_drewN ?_ _ | refine blk_drew ?_ | refine blk_alloc ?_ _)); exact BK101.out) (k28_mk _ (⟨a1_0, l1_1⟩ : S28) (by exact HC1_1.out) (by repeat (first | exact (Kd.C_below HR1_1.out (by repeat (first | (with_reducible first | exact HB.out | apply below_alloc | apply pw_below_drewN | apply below_drew1 | refine below_set ?_ GE101.out) | exact HB.out))) | (with_reducible refine Kd.C_alloc ?_ _) | (with_reducible refine Kd.C_drewN ?_ _) | (with_reducible refine Kd.C_drew ?_)))))); rintro e w' ⟨rfl, ⟨nd, rfl⟩⟩; refine ⟨_, rfl, ?_⟩; (try (rw [drewN_self wr]; generalize hq_ : World.drewN wr _ = wr; have n0_ : Aside0 (Kd.R (Kd.int .i64) 2 wr w.heap.size (fun k_ => True) u6 x6_2) := ⟨by rw [← hq_]; exact (by (with_reducible repeat (first | apply Kd.R_alloc | apply Kd.R_drewN | apply Kd.R_drew)); exact HO_6.out)⟩; have n1_ : Aside0 (wr.heap[gb101]? = some (.cells #[.string a1_0, .slice A1_1 l1_1.length c1_1] 28 (0, 0))) := ⟨by rw [← hq_]; exact (by (with_reducible repeat (first | refine blk_drewN ?_ _ | refine blk_drew ?_ | refine blk_alloc ?_ _)); exact BK101.out)⟩; have n2_ : Aside0 (Below w.heap.size w wr) := ⟨by rw [← hq_]; exact (by repeat (first | (with_reducible first | exact HB.out | apply below_alloc | apply pw_below_drewN | apply below_drew1 | refine below_set ?_ GE101.out) | exact HB.out))⟩; clear HO_6 BK101 HB hq_; have HO_6 := n0_; have BK101 := n1_; have HB := n2_; clear n0_ n1_ n2_))) | ((with_reducible refine gate_builtin (b := .append) (xs := #[.tmp 22, .tmp 28]) rfl ?_); at_builtin; refine Kd.R_append (Kd.int .i64) (w0 := w) w.heap.size rfl (.tmp 22) (.tmp 28) 22 2 (.int .i64 0) 8 rfl Try.underlying22 info2 rfl (by decide) (by omega) u6 x6_2 (wrap64 (-t108)) [.int .i64 (wrap64 (-t108))] (fun _ => True) (fun _ => False) rfl rfl ?aP (fun _ hk => hk.elim) ?aF ?aO ?aB ?aS ?aL ?_; (case aP => exact rfl); (case aB => exact (by repeat (first | (with_reducible first | exact HB.out | apply below_alloc | apply pw_below_drewN | apply below_drew1 | refine below_set ?_ GE101.out) | exact HB.out))); (case aF => exact (fun _ _ => trivial)); (case aO => exact (by (with_reducible repeat (first | apply Kd.R_alloc | apply Kd.R_drewN | apply Kd.R_drew)); exact HO_6.out)); (case aS => exact (below_size (by repeat (first | (with_reducible first | exact HB.out | apply below_alloc | apply pw_below_drewN | apply below_drew1 | refine below_set ?_ GE101.out) | exact HB.out)))); (case aL => have := LMc14.out; omega); intro v110 w15 ho hb hg hat; rw [← Ny109.out] at ho; have n0_ := Aside0.mk (blk_grown (g := gb101) (o := .cells #[.string a1_0, .slice A1_1 l1_1.length c1_1] 28 (0, 0)) (by (with_reducible repeat (first | refine blk_drewN ?_ _ | refine blk_drew ?_ | refine blk_alloc ?_ _)); exact BK101.out) hg (Kd.R_ne HO_6.out BK101.out (by decide))); have n1_ := Aside0.mk (hb); have n2_ := Aside0.mk (ho); clear BK101; clear HB; clear HO_6; have BK101 := n0_; have HB := n1_; have HO111 := n2_; clear n0_ n1_ n2_; clear ho hb hg hat))
                  go_roundg k2
                  case measure => have := HJ2.out; have := HK2.out; omega
                  case rel => exact ⟨(y109), (wrap64 (x7_2 + 1)), (by first | rfl | (simp; done) | (simp [*]; done)), H', ⟨by have := HJ2.out; have := HK2.out; omega⟩, ⟨by (with_reducible repeat (first | apply Kd.R_alloc | apply Kd.R_drewN | apply Kd.R_drew)); exact HO111.out⟩, ⟨by (with_reducible repeat (first | refine blk_drewN ?_ _ | refine blk_drew ?_ | refine blk_alloc ?_ _)); exact BK101.out⟩, ⟨by repeat (first | (with_reducible first | exact HB.out | apply below_alloc | apply pw_below_drewN | apply below_drew1 | refine below_set ?_ GE101.out) | exact HB.out)⟩⟩
                · rw [if_neg c14] at H
                  exact absurd H (by simp)
              · rw [if_neg c12] at H
                exact absurd H (by simp)
            · rw [if_neg c11] at H
              have c11b0 : decide (x7_2 < (l0.length : Int)) = false := decide_eq_false c11
              clear c11
              replace H := Option.bind_eq_some_iff.mp H
              obtain ⟨t112, A160, H⟩ := H
              replace H : (some (t112, 0)) = some (r1, r2) := H
              have A16 := Aside0.mk A160
              clear A160
              simp only [Option.some.injEq, Prod.mk.injEq] at H
              obtain ⟨rfl, rfl⟩ := H
              obtain ⟨Ao17, co17, eo17⟩ := Kd.R_slice HO_6.out
              subst eo17
              go_wp2_with (first | ((with_reducible refine gate_callee (f := 74) rfl ?_); refine goesL_ (some 31) rfl rfl Try.func74 (by kernel_rfl) rfl #[.slice Ao17 x6_2.length co17] rfl (by (try simp only [List.map_toArray, List.map_cons, List.map_nil]); first | done | rfl | (simp only [List.length_drop, List.length_take]; rfl)) ?_; (with_reducible refine (spec_l14Order.calls k2 _ _ x6_2 t112 _ ?side1 ?side2 A16.out).mono ?_); (case side1 => repeat (first | exact (Kd.R_reads' HO_6.out).2.2 | (with_reducible refine Kd.C_alloc ?_ _) | (with_reducible refine Kd.C_drewN ?_ _) | (with_reducible refine Kd.C_drew ?_))); (case side2 => exact (Kd.R_reads' HO_6.out).2.1); rintro e w18 ⟨v113, rfl, ho0, hb⟩; refine ⟨_, rfl, ?_⟩; have n0_ := Aside0.mk (Kd.R_elder' (by (with_reducible repeat (first | apply Kd.R_alloc | apply Kd.R_drewN | apply Kd.R_drew)); exact HO_6.out) (Kd.R_base ho0) hb); have n1_ := Aside0.mk (Kd.R_lower (Kd.R_new' ho0 (Kd.R_lt (by (with_reducible repeat (first | apply Kd.R_alloc | apply Kd.R_drewN | apply Kd.R_drew)); exact HO_6.out))) (below_size (by repeat (first | (with_reducible first | exact HB.out | apply below_alloc | apply pw_below_drewN | apply below_drew1 | refine below_set ?_ GE101.out) | exact HB.out)))); have n2_ := Aside0.mk (blk_below (g := gb101) (o := .cells #[.string a1_0, .slice A1_1 l1_1.length c1_1] 28 (0, 0)) (by (with_reducible repeat (first | refine blk_drewN ?_ _ | refine blk_drew ?_ | refine blk_alloc ?_ _)); exact BK101.out) hb); have n3_ := Aside0.mk (below_step (by repeat (first | (with_reducible first | exact HB.out | apply below_alloc | apply pw_below_drewN | apply below_drew1 | refine below_set ?_ GE101.out) | exact HB.out)) hb); clear HO_6; clear BK101; clear HB; have HO_6 := n0_; have HO114 := n1_; have BK101 := n2_; have HB := n3_; clear n0_ n1_ n2_ n3_; (try clear hb); (try clear hb2); (try clear hk); (try clear hi); (try clear ho0)))
              go_ret2
              exact ⟨_, by first | rfl | (simp [errW_none, errW_some] <;> rfl) | (simp [*, errW_none, errW_some] <;> rfl), by (with_reducible repeat (first | apply Kd.R_alloc | apply Kd.R_drewN | apply Kd.R_drew)); exact Kd.R_mono HO114.out (fun _ hk => trivial), by repeat (first | (with_reducible first | exact HB.out | apply below_alloc | apply pw_below_drewN | apply below_drew1 | refine below_set ?_ GE101.out) | exact HB.out)⟩
end Go.Proofs.Yteafahnopgmgoaa.Q
namespace Go.Proofs.Yteafahnopgmgoaa.Q
open Go.RowKit Go.Proofs.YteafahnopgmgoaaW.PrintWords Go.Proofs.YteafahnopgmgoaaW.PrintLast Go.Proofs.YteafahnopgmgoaaW.PrintMore
def okB (x : Int) : Bool := decide (0 ≤ x) && decide (x ≤ 255)
theorem rd_nat (l : List Int) (i : Nat) (h : i < l.length) : rd l (i : Int) = l[i] := by unfold rd; simp [List.getD, h]
theorem one_loop (x : S28) (hl : x.f1.length < 4611686018427387904) : ∀ (d i : Nat), i + d = x.f1.length → ∀ k, d < k → spec_l26One.l0 k [x] i = some ((x.f1.drop i).all okB) := by
  intro d
  have hrd : rd_T28 [x] 0 = x := rfl
  induction d with
  | zero =>
    intro i h k hk
    obtain ⟨k, rfl⟩ : ∃ m, k = m + 1 := ⟨k - 1, by omega⟩
    simp only [spec_l26One.l0, hrd]
    rw [if_pos (by simp), if_neg (by omega), List.drop_of_length_le (by omega)]
    rfl
  | succ d ih =>
    intro i h k hk
    obtain ⟨k, rfl⟩ : ∃ m, k = m + 1 := ⟨k - 1, by omega⟩
    simp only [spec_l26One.l0, hrd]
    rw [if_pos (by simp), if_pos (by omega), if_pos (by omega), rd_nat _ _ (by omega), in_f]
    simp only [Option.bind_some]
    rw [w64 (by omega) (by omega), show (i : Int) + 1 = ((i + 1 : Nat) : Int) by omega, ih (i + 1) (by omega) k (by omega), List.drop_eq_getElem_cons (show i < x.f1.length by omega), List.all_cons, ite_and]
    rfl
theorem index_loop (l : List Int) (hl : l.length < 4611686018427387904) : ∀ (d i : Nat), i + d = l.length → ∃ r, decide (r ≥ 0) = !((l.drop i).all okB) ∧ ∀ k, d < k → slices_IndexFunc_int64_int64.l0 k l (l.length : Int) i = some r := by
  intro d
  induction d with
  | zero =>
    intro i h
    refine ⟨-1, by rw [List.drop_of_length_le (by omega)]; rfl, fun k hk => ?_⟩
    obtain ⟨k, rfl⟩ : ∃ m, k = m + 1 := ⟨k - 1, by omega⟩
    simp only [slices_IndexFunc_int64_int64.l0]
    rw [if_neg (by omega)]
  | succ d ih =>
    intro i h
    cases hc : okB l[i]
    · refine ⟨i, by rw [List.drop_eq_getElem_cons (show i < l.length by omega), List.all_cons, hc]; simp, fun k hk => ?_⟩
      obtain ⟨k, rfl⟩ : ∃ m, k = m + 1 := ⟨k - 1, by omega⟩
      simp only [slices_IndexFunc_int64_int64.l0, impl_ValidFeature_1.f]
      rw [if_pos (by omega), if_pos (by omega), if_pos (by omega), rd_nat _ _ (by omega), within_f]
      simp only [Option.bind_some]
      rw [show (decide (0 ≤ l[i]) && decide (l[i] ≤ 255)) = false from hc]
      simp
    · obtain ⟨r, hr, hk0⟩ := ih (i + 1) (by omega)
      refine ⟨r, by rw [List.drop_eq_getElem_cons (show i < l.length by omega), List.all_cons, hc, hr]; simp, fun k hk => ?_⟩
      obtain ⟨k, rfl⟩ : ∃ m, k = m + 1 := ⟨k - 1, by omega⟩
      simp only [slices_IndexFunc_int64_int64.l0, impl_ValidFeature_1.f]
      rw [if_pos (by omega), if_pos (by omega), if_pos (by omega), rd_nat _ _ (by omega), within_f]
      simp only [Option.bind_some]
      rw [show (decide (0 ≤ l[i]) && decide (l[i] ≤ 255)) = true from hc]
      simp only [Bool.not_true, Bool.false_eq_true, if_false]
      rw [w64 (by omega) (by omega), show (i : Int) + 1 = ((i + 1 : Nat) : Int) by omega, hk0 k (by omega)]
theorem valid_ev (a : ByteArray) (l : List Int) : ∃ b, (b = true → l.length = 6 ∧ l.all okB = true) ∧ ∀ k, 20 < k → spec_l26One.f k [(⟨a, l⟩ : S28)] = some b ∧ impl_ValidFeature.f k a l = some b := by
  obtain ⟨b, hb⟩ := name_ev a
  have hrd : rd_T28 [(⟨a, l⟩ : S28)] 0 = ⟨a, l⟩ := rfl
  cases b with
  | false =>
    refine ⟨false, fun h => (by cases h), fun k hk => ⟨?_, ?_⟩⟩
    · unfold spec_l26One.f
      rw [if_pos (by simp), hrd, name_same, hb k (by omega)]
      obtain ⟨k, rfl⟩ : ∃ m, k = m + 1 := ⟨k - 1, by omega⟩
      simp [spec_l26One.j0]
    · unfold impl_ValidFeature.f
      rw [hb k (by omega)]
      simp
  | true =>
    by_cases h6 : l.length = 6
    · obtain ⟨r, hr, hk0⟩ := index_loop l (by omega) 6 0 (by omega)
      rw [List.drop_zero] at hr
      refine ⟨l.all okB, fun h => ⟨h6, h⟩, fun k hk => ⟨?_, ?_⟩⟩
      · unfold spec_l26One.f
        rw [if_pos (by simp), hrd, name_same, hb k (by omega)]
        obtain ⟨k, rfl⟩ : ∃ m, k = m + 1 := ⟨k - 1, by omega⟩
        have := one_loop ⟨a, l⟩ (by simp only []; omega) 6 0 (by simp only []; omega) k (by omega)
        simp only [List.drop_zero] at this
        simp [spec_l26One.j0, h6]
        simpa using this
      · unfold impl_ValidFeature.f slices_ContainsFunc_int64_int64.f slices_IndexFunc_int64_int64.f
        rw [hb k (by omega)]
        have := hk0 k (by omega)
        simp only [Option.bind_some, if_true]
        rw [if_pos (by omega), show ((0 : Int)) = ((0 : Nat) : Int) from rfl, this]
        simp only [Option.bind_some]
        rw [show decide (r ≥ ((0 : Nat) : Int)) = decide (r ≥ 0) from rfl, hr]
        simp
    · refine ⟨false, fun h => (by cases h), fun k hk => ⟨?_, ?_⟩⟩
      · unfold spec_l26One.f
        rw [if_pos (by simp), hrd, name_same, hb k (by omega)]
        obtain ⟨k, rfl⟩ : ∃ m, k = m + 1 := ⟨k - 1, by omega⟩
        simp [spec_l26One.j0, show ¬ (l.length : Int) = 6 by omega]
      · unfold impl_ValidFeature.f
        rw [hb k (by omega)]
        simp only [Option.bind_some, if_true]
        rw [if_neg (by omega)]
end Go.Proofs.Yteafahnopgmgoaa.Q
namespace Go.Proofs.Yteafahnopgmgoaa.Q
open Go.RowKit Go.Proofs.YteafahnopgmgoaaW.PrintWords Go.Proofs.YteafahnopgmgoaaW.PrintLast Go.Proofs.YteafahnopgmgoaaW.PrintMore
theorem rd_F (l : List S28) (i : Nat) (h : i < l.length) : rd_T28 l (i : Int) = l[i] := by unfold rd_T28; simp [List.getD, h]
theorem validS_ev (m : List S28) (hl : (m.length : Int) ≤ 1048576) : ∃ b, (b = true → m.length ≤ 16 ∧ ∀ y ∈ m, y.f1.length = 6 ∧ y.f1.all okB = true) ∧ ∀ k, 2000000 < k → spec_l26Ok.f k m = some b ∧ impl_ValidFeatures.f k m = some b := by
  have go : ∀ (d i : Nat), i + d = m.length → ∃ b, (b = true → m.length ≤ 16 ∧ ∀ y ∈ m.drop i, y.f1.length = 6 ∧ y.f1.all okB = true) ∧ ∀ k, d + 30 < k → spec_l26Ok.l0 k m i = some b ∧ impl_ValidFeatures.l0 k m m (m.length : Int) i = some b := by
    intro d
    induction d with
    | zero =>
      intro i h1
      refine ⟨decide ((m.length : Int) ≤ 16), fun h => ⟨by have := of_decide_eq_true h; omega, by rw [List.drop_of_length_le (by omega)]; simp⟩, fun k hk => ?_⟩
      obtain ⟨k, rfl⟩ : ∃ m, k = m + 1 := ⟨k - 1, by omega⟩
      simp only [spec_l26Ok.l0, impl_ValidFeatures.l0]
      rw [if_neg (by omega), if_neg (by omega)]
      exact ⟨rfl, rfl⟩
    | succ d ih =>
      intro i h1
      obtain ⟨b, hb, hv⟩ := valid_ev m[i].f0 m[i].f1
      have e1 : ∀ k, 20 < k → spec_l26One.f k [m[i]] = some b := fun k h => (hv k h).1
      have e2 : ∀ k, 20 < k → impl_ValidFeature.f k m[i].f0 m[i].f1 = some b := fun k h => (hv k h).2
      obtain ⟨c, hc, hk0⟩ := ih (i + 1) (by omega)
      have g1 : ((i : Int) < (m.length : Int)) = True := eq_true (by omega)
      have g2 : (0 ≤ (i : Int)) = True := eq_true (by omega)
      have g3 := rd_F m i (by omega)
      have g4 : wrap64 ((i : Int) + 1) = ((i + 1 : Nat) : Int) := by rw [w64 (by omega) (by omega)]; omega
      have gf : (false = true) = False := by simp
      cases b with
      | false =>
        refine ⟨false, fun h => (by cases h), fun k hk => ?_⟩
        obtain ⟨k, rfl⟩ : ∃ m, k = m + 1 := ⟨k - 1, by omega⟩
        simp only [spec_l26Ok.l0, impl_ValidFeatures.l0, g1, g2, g3, if_true, e1 k (by omega), e2 k (by omega), Option.bind_some, gf, if_false]
        exact ⟨trivial, trivial⟩
      | true =>
        have hcons : c = true → m.length ≤ 16 ∧ ∀ y ∈ m.drop i, y.f1.length = 6 ∧ y.f1.all okB = true := by
          intro h
          obtain ⟨c1, c2⟩ := hc h
          refine ⟨c1, ?_⟩
          rw [List.drop_eq_getElem_cons (show i < m.length by omega)]
          intro y hy
          rcases List.mem_cons.1 hy with rfl | hy
          · exact hb rfl
          · exact c2 y hy
        by_cases hi : i = 0
        · have g5 : ((i : Int) > 0) = False := eq_false (by omega)
          refine ⟨c, hcons, fun k hk => ?_⟩
          obtain ⟨k, rfl⟩ : ∃ m, k = m + 1 := ⟨k - 1, by omega⟩
          obtain ⟨f1, f2⟩ := hk0 k (by omega)
          simp only [spec_l26Ok.l0, impl_ValidFeatures.l0, g1, g2, g3, if_true, e1 k (by omega), e2 k (by omega), Option.bind_some, g5, if_false, g4]
          exact ⟨f1, f2⟩
        · have g5 : ((i : Int) > 0) = True := eq_true (by omega)
          have g6 : wrap64 ((i : Int) - 1) = (i : Int) - 1 := w64 (by omega) (by omega)
          have g7 : (0 ≤ (i : Int) - 1) = True := eq_true (by omega)
          have g8 : ((i : Int) - 1 < (m.length : Int)) = True := eq_true (by omega)
          cases hlt : Op.bytesLess ((rd_T28 m ((i : Int) - 1)).f0).toList (m[i].f0).toList with
          | true =>
            refine ⟨c, hcons, fun k hk => ?_⟩
            obtain ⟨k, rfl⟩ : ∃ m, k = m + 1 := ⟨k - 1, by omega⟩
            obtain ⟨f1, f2⟩ := hk0 k (by omega)
            simp only [spec_l26Ok.l0, impl_ValidFeatures.l0, g1, g2, g3, if_true, e1 k (by omega), e2 k (by omega), Option.bind_some, g5, g6, g7, g8, hlt, g4]
            exact ⟨f1, f2⟩
          | false =>
            refine ⟨false, fun h => (by cases h), fun k hk => ?_⟩
            obtain ⟨k, rfl⟩ : ∃ m, k = m + 1 := ⟨k - 1, by omega⟩
            simp only [spec_l26Ok.l0, impl_ValidFeatures.l0, g1, g2, g3, if_true, e1 k (by omega), e2 k (by omega), Option.bind_some, g5, g6, g7, g8, hlt, gf, if_false]
            exact ⟨trivial, trivial⟩
  obtain ⟨b, hb, hk0⟩ := go m.length 0 (by omega)
  exact ⟨b, by simpa using hb, fun k hk => hk0 k (by omega)⟩
end Go.Proofs.Yteafahnopgmgoaa.Q
namespace Go.Proofs.Yteafahnopgmgoaa.Q
open Go.RowKit Go.Proofs.YteafahnopgmgoaaW.PrintWords Go.Proofs.YteafahnopgmgoaaW.PrintLast Go.Proofs.YteafahnopgmgoaaW.PrintMore
set_option linter.unusedVariables false
abbrev Fe := S28
def vF (x : Fe) : Prop := x.f1.length = 6 ∧ x.f1.all okB = true
theorem Ev_all {α : Type} {g : Nat → Option α} {r : α} {n : Nat} (h : ∀ k, n < k → g k = some r) : Ev g r := ⟨n + 1, fun k hk => h k (by omega)⟩
theorem rdF_one (x : Fe) : rd_T28 [x] 0 = x := rfl
theorem rdF_in (l : List Fe) (i : Nat) (h : i < l.length) : rd_T28 l (i : Int) = l[i] := by unfold rd_T28; exact getD_in l _ i h
theorem away2_ev (x y : Fe) (hx : vF x) (hy : vF y) : ∃ v : Int, 0 ≤ v ∧ v ≤ 1530 ∧ Ev (fun k => spec_l26Away.f k [x] [y]) v ∧ Ev (fun k => impl_featureDistance.f k x.f0 x.f1 y.f0 y.f1) v := by
  obtain ⟨a, l⟩ := x
  obtain ⟨b, m⟩ := y
  obtain ⟨hl, h1⟩ := hx
  obtain ⟨hm, h2⟩ := hy
  simp only [] at hl h1 hm h2
  have go : ∀ (d i : Nat) (c : Int), i + d = 6 → 0 ≤ c → c ≤ 255 * (i : Int) → ∃ v, 0 ≤ v ∧ v ≤ 1530 ∧ Ev (fun k => spec_l26Away.l0 k [(⟨a, l⟩ : Fe)] [(⟨b, m⟩ : Fe)] c i) v ∧ Ev (fun k => impl_featureDistance.l0 k c l (l.length : Int) i b m) v := by
    intro d
    induction d with
    | zero =>
      intro i c h c0 c1
      refine ⟨c, c0, by omega, Ev_suc ?_, Ev_suc ?_⟩
      · simp only [spec_l26Away.l0]; exact Ev_f (by omega) (Ev_n rfl)
      · simp only [impl_featureDistance.l0]; exact Ev_f (by omega) (Ev_n rfl)
    | succ d ih =>
      intro i c h c0 c1
      have g1 : 0 ≤ l[i] ∧ l[i] ≤ 255 := by simpa [okB] using (List.all_eq_true.mp h1) l[i] (List.getElem_mem _)
      have g2 : 0 ≤ m[i] ∧ m[i] ≤ 255 := by simpa [okB] using (List.all_eq_true.mp h2) m[i] (List.getElem_mem _)
      have e1 : spec_l00Max.f (wrap64 (l[i] - m[i])) (wrap64 (m[i] - l[i])) = some (if l[i] ≤ m[i] then m[i] - l[i] else l[i] - m[i]) := by
        unfold spec_l00Max.f
        rw [w64 (x := l[i] - m[i]) (by omega) (by omega), w64 (x := m[i] - l[i]) (by omega) (by omega)]
        split <;> split <;> first | rfl | (congr 1; omega) | omega
      have e2 : impl_absolute.f (wrap64 (l[i] - m[i])) = some (if l[i] ≤ m[i] then m[i] - l[i] else l[i] - m[i]) := by
        unfold impl_absolute.f
        rw [w64 (x := l[i] - m[i]) (by omega) (by omega), w64 (by omega) (by omega)]
        unfold mx
        split <;> split <;> first | rfl | (congr 1; omega) | omega
      obtain ⟨t, ht⟩ : ∃ t, t = (if l[i] ≤ m[i] then m[i] - l[i] else l[i] - m[i]) := ⟨_, rfl⟩
      have t0 : 0 ≤ t ∧ t ≤ 255 := by rw [ht]; split <;> omega
      rw [← ht] at e1 e2
      obtain ⟨v, v0, v1, q1, q2⟩ := ih (i + 1) (c + t) (by omega) (by omega) (by omega)
      refine ⟨v, v0, v1, Ev_suc ?_, Ev_suc ?_⟩
      · simp only [spec_l26Away.l0, rdF_one]
        refine Ev_t (by omega) (Ev_t (by simp) (Ev_t (by omega) (Ev_t (by omega) (Ev_t (by simp) (Ev_t (by omega) ?_)))))
        rw [rd_nat l i (by omega), rd_nat m i (by omega)]
        refine Ev_b (Ev_c e1) ?_
        rw [wr64 (x := c + t) (by omega) (by omega), wr64s i (by omega)]
        exact q1
      · simp only [impl_featureDistance.l0]
        refine Ev_t (by omega) (Ev_t (by omega) (Ev_t (by omega) (Ev_t (by omega) ?_)))
        rw [rd_nat l i (by omega), rd_nat m i (by omega)]
        refine Ev_b (Ev_c e2) ?_
        rw [wr64 (x := c + t) (by omega) (by omega), wr64s i (by omega)]
        exact q2
  obtain ⟨v, v0, v1, q1, q2⟩ := go 6 0 0 rfl (by omega) (by omega)
  refine ⟨v, v0, v1, ?_, ?_⟩
  · simp only [spec_l26Away.f]; exact q1
  · simp only [impl_featureDistance.f]; exact q2
theorem dist_fun (m : List Fe) (f : Fe) (hm : ∀ y ∈ m, vF y) (hf : vF f) : ∃ D : Nat → Int, ∀ i (h : i < m.length), 0 ≤ D i ∧ D i ≤ 1530 ∧ Ev (fun k => spec_l26Away.f k [m[i]] [f]) (D i) ∧ Ev (fun k => impl_featureDistance.f k m[i].f0 m[i].f1 f.f0 f.f1) (D i) := by
  have : ∀ i, ∃ v : Int, ∀ h : i < m.length, 0 ≤ v ∧ v ≤ 1530 ∧ Ev (fun k => spec_l26Away.f k [m[i]] [f]) v ∧ Ev (fun k => impl_featureDistance.f k m[i].f0 m[i].f1 f.f0 f.f1) v := by
    intro i
    by_cases h : i < m.length
    · obtain ⟨v, hv⟩ := away2_ev m[i] f (hm _ (List.getElem_mem _)) hf
      exact ⟨v, fun _ => hv⟩
    · exact ⟨0, fun h' => absurd h' h⟩
  exact Classical.axiomOfChoice this
def insr (D : Nat → Int) (x : Nat) : List Nat → List Nat
  | [] => [x]
  | y :: r => if D x < D y then y :: insr D x r else x :: y :: r
theorem insr_mem (D : Nat → Int) (x z : Nat) : ∀ r, z ∈ insr D x r ↔ z = x ∨ z ∈ r
  | [] => by simp [insr]
  | y :: r => by
    unfold insr
    split
    · simp only [List.mem_cons, insr_mem D x z r]
      constructor
      · rintro (h | h | h) <;> simp [h]
      · rintro (h | h | h) <;> simp [h]
    · simp only [List.mem_cons]
theorem insr_len (D : Nat → Int) (x : Nat) : ∀ r, (insr D x r).length = r.length + 1
  | [] => rfl
  | y :: r => by
    unfold insr
    split
    · simp [insr_len D x r]
    · simp
def ranks (D : Nat → Int) : Nat → List Nat
  | 0 => []
  | n + 1 => insr D n (ranks D n)
theorem ranks_mem (D : Nat → Int) : ∀ n z, z ∈ ranks D n ↔ z < n
  | 0, z => by simp [ranks]
  | n + 1, z => by rw [ranks, insr_mem, ranks_mem D n z]; omega
theorem ranks_len (D : Nat → Int) : ∀ n, (ranks D n).length = n
  | 0 => rfl
  | n + 1 => by rw [ranks, insr_len, ranks_len D n]
def up (r : List Nat) : List Int := r.reverse.map (fun (i : Nat) => (i : Int))
theorem up_cons (y : Nat) (r : List Nat) : up (y :: r) = up r ++ [(y : Int)] := by simp [up]
theorem up_len (r : List Nat) : (up r).length = r.length := by simp [up]
theorem rd_mid (a b : List Int) (x : Int) (i : Nat) (h : a.length = i) : rd (a ++ x :: b) (i : Int) = x := by unfold rd; exact getD_at a b _ x i h
theorem spec_ins (D : Nat → Int) (n : Nat) (ds : List Int) (hn : ds.length = n) (hsm : n ≤ 1000) (hd : ∀ i, i < n → rd ds (i : Int) = - D i) (x : Nat) (hx : x < n) (R : List Int) : ∀ (r : List Nat) (b : List Int), (∀ z ∈ r, z < n) → r.length + b.length ≤ 2000 →
    Ev (fun k => spec_l14Order.l0 k ds (up (insr D x r) ++ b) ((x + 1 : Nat) : Int)) R → Ev (fun k => spec_l14Order.l1 k ds (up r ++ b) x (r.length : Int)) R := by
  intro r
  have own : ∀ l : List Int, l.length ≤ 2000 → spec_l00Own.f l = some l := fun l hl => by
    unfold spec_l00Own.f
    simp only [Option.bind_some]
    rw [if_pos (by simp; omega)]; rfl
  induction r with
  | nil =>
    intro b _ hl h
    refine Ev_suc ?_
    simp only [spec_l14Order.l1, up, List.reverse_nil, List.map_nil, List.nil_append]
    refine Ev_f (by simp) (Ev_t (by simp) (Ev_t (by simp) ?_))
    simp only [List.length_nil] at hl
    refine Ev_b (Ev_c (own _ (by simp))) ?_
    refine Ev_t (by simp) (Ev_s (Ev_s (Ev_t (by simp; omega) ?_)))
    rw [wr64s x (by omega)]
    simpa [up, insr] using h
  | cons y r ih =>
    intro b hz hl h
    have hy : y < n := hz y (List.mem_cons_self ..)
    simp only [List.length_cons] at hl
    have e1 : wrap64 (((r.length + 1 : Nat) : Int) - 1) = (r.length : Int) := by rw [wr64 (by omega) (by omega)]; omega
    have e2 : rd (up (y :: r) ++ b) (r.length : Int) = (y : Int) := by rw [up_cons, List.append_assoc, List.singleton_append]; exact rd_mid _ _ _ _ (up_len r)
    have e3 : (up (y :: r) ++ b).length = r.length + 1 + b.length := by simp [up_len]
    refine Ev_suc ?_
    simp only [spec_l14Order.l1, List.length_cons, e1, e2, hd y hy, hd x hx]
    refine Ev_t (by omega) (Ev_t (by omega) (Ev_t (by rw [e3]; omega) (Ev_t (by omega) (Ev_t (by omega) (Ev_t (by omega) (Ev_t (by omega) ?_))))))
    by_cases c : D x < D y
    · refine Ev_t (by omega) ?_
      rw [up_cons, List.append_assoc, List.singleton_append]
      refine ih ((y : Int) :: b) (fun z h => hz z (List.mem_cons_of_mem _ h)) (by simp; omega) ?_
      rw [insr, if_pos c, up_cons, List.append_assoc, List.singleton_append] at h
      exact h
    · refine Ev_f (by omega) (Ev_t (by omega) (Ev_t (by rw [e3]; omega) ?_))
      have e4 : (up (y :: r) ++ b).take ((r.length + 1 : Nat) : Int).toNat = up (y :: r) := by rw [Int.toNat_natCast]; exact List.take_left' (by simp [up_len])
      have e5 : (up (y :: r) ++ b).drop ((r.length + 1 : Nat) : Int).toNat = b := by rw [Int.toNat_natCast]; exact List.drop_left' (by simp [up_len])
      rw [e4, e5]
      refine Ev_b (Ev_c (own _ (by simp [up_len]; omega))) ?_
      refine Ev_t (by simp [up_len]; omega) (Ev_s (Ev_s (Ev_t (by simp [up_len]; omega) ?_)))
      rw [wr64s x (by omega)]
      rw [insr, if_neg c, up_cons] at h
      exact h
theorem spec_order (D : Nat → Int) (n : Nat) (ds : List Int) (hn : ds.length = n) (hsm : n ≤ 1000) (hd : ∀ i, i < n → rd ds (i : Int) = - D i) : Ev (fun k => spec_l14Order.f k ds) (up (ranks D n)) := by
  have go : ∀ (d i : Nat), i + d = n → Ev (fun k => spec_l14Order.l0 k ds (up (ranks D i)) i) (up (ranks D n)) := by
    intro d
    induction d with
    | zero =>
      intro i h
      refine Ev_suc ?_
      simp only [spec_l14Order.l0]
      obtain rfl : i = n := by omega
      exact Ev_f (by omega) (Ev_n rfl)
    | succ d ih =>
      intro i h
      refine Ev_suc ?_
      simp only [spec_l14Order.l0]
      refine Ev_t (by omega) ?_
      have := spec_ins D n ds hn hsm hd i (by omega) _ (ranks D i) [] (fun z h => by rw [ranks_mem] at h; omega) (by rw [ranks_len]; simp; omega) (by rw [List.append_nil]; exact ih (i + 1) (by omega))
      rw [List.append_nil] at this
      rw [up_len]
      exact this
  simp only [spec_l14Order.f]
  exact go n 0 (by omega)
def rng (a n : Nat) : List Int := (List.range' a (n - a)).map (fun (i : Nat) => (i : Int))
theorem rng_cons (a n : Nat) (h : a < n) : rng a n = (a : Int) :: rng (a + 1) n := by
  unfold rng
  rw [show n - a = (n - (a + 1)) + 1 by omega, List.range'_succ]
  rfl
theorem rng_len (a n : Nat) : (rng a n).length = n - a := by simp [rng]
theorem rng_nil (n : Nat) : rng n n = [] := by simp [rng]
theorem rng_last (n : Nat) : rng 0 (n + 1) = rng 0 n ++ [(n : Int)] := by
  unfold rng
  rw [show n + 1 - 0 = n + 1 by omega, List.range'_1_concat, List.map_append, Nat.sub_zero]
  simp
theorem cmp_ev (m : List Fe) (f : Fe) (D : Nat → Int) (hD : ∀ i (h : i < m.length), 0 ≤ D i ∧ D i ≤ 1530 ∧ Ev (fun k => spec_l26Away.f k [m[i]] [f]) (D i) ∧ Ev (fun k => impl_featureDistance.f k m[i].f0 m[i].f1 f.f0 f.f1) (D i)) (x y : Nat) (hx : x < m.length) (hy : y < m.length) :
    Ev (fun k => impl_RankedFeatures_1.f k x y [m] [f]) (D x - D y) := by
  simp only [impl_RankedFeatures_1.f]
  obtain ⟨x0, x1, _, xe⟩ := hD x hx
  obtain ⟨y0, y1, _, ye⟩ := hD y hy
  have e : rd_L9 [m] 0 = m := rfl
  rw [e, rdF_in m x hx, rdF_in m y hy, rdF_one]
  refine Ev_t (by simp) (Ev_t (by omega) (Ev_t (by omega) (Ev_t (by simp) (Ev_b xe (Ev_t (by omega) (Ev_t (by omega) (Ev_b ye (Ev_n ?_))))))))
  exact wr64 (by omega) (by omega)
theorem impl_ins (m : List Fe) (f : Fe) (D : Nat → Int) (hD : ∀ i (h : i < m.length), 0 ≤ D i ∧ D i ≤ 1530 ∧ Ev (fun k => spec_l26Away.f k [m[i]] [f]) (D i) ∧ Ev (fun k => impl_featureDistance.f k m[i].f0 m[i].f1 f.f0 f.f1) (D i)) (hsm : m.length ≤ 1000) (x : Nat) (hx : x < m.length) (n2 : Int) (R : List Int) : ∀ (r : List Nat) (b : List Int), (∀ z ∈ r, z < m.length) → r.length + b.length ≤ 2000 →
    Ev (fun k => slices_insertionSortCmpFunc_int64.l0 k (up (insr D x r) ++ b) 0 n2 ((x + 1 : Nat) : Int) [m] [f]) R → Ev (fun k => slices_insertionSortCmpFunc_int64.l1 k (up r ++ (x : Int) :: b) 0 n2 x (r.length : Int) [m] [f]) R := by
  intro r
  induction r with
  | nil =>
    intro b _ hl h
    refine Ev_suc ?_
    simp only [slices_insertionSortCmpFunc_int64.l1]
    refine Ev_f (by simp) ?_
    rw [wr64s x (by omega)]
    simpa [up, insr] using h
  | cons y r ih =>
    intro b hz hl h
    have hy : y < m.length := hz y (List.mem_cons_self ..)
    simp only [List.length_cons] at hl
    have e1 : wrap64 (((r.length + 1 : Nat) : Int) - 1) = (r.length : Int) := by rw [wr64 (by omega) (by omega)]; omega
    have e2 : rd (up (y :: r) ++ (x : Int) :: b) (r.length : Int) = (y : Int) := by rw [up_cons, List.append_assoc, List.singleton_append]; exact rd_mid _ _ _ _ (up_len r)
    have e2' : rd (up (y :: r) ++ (x : Int) :: b) ((r.length + 1 : Nat) : Int) = (x : Int) := rd_mid _ _ _ _ (by rw [up_len]; rfl)
    have e3 : (up (y :: r) ++ (x : Int) :: b).length = r.length + 2 + b.length := by simp [up_len]; omega
    refine Ev_suc ?_
    simp only [slices_insertionSortCmpFunc_int64.l1, List.length_cons, e1, e2, e2']
    refine Ev_t (by omega) (Ev_t (by omega) (Ev_t (by rw [e3]; omega) (Ev_t (by omega) (Ev_t (by rw [e3]; omega) (Ev_b (cmp_ev m f D hD x y hx hy) ?_)))))
    by_cases c : D x < D y
    · refine Ev_t (by omega) ?_
      have e6 : ((up (y :: r) ++ (x : Int) :: b).set ((r.length + 1 : Nat) : Int).toNat (y : Int)).set (r.length : Int).toNat (x : Int) = up r ++ (x : Int) :: (y : Int) :: b := by
        rw [set_at (up (y :: r)) b (x : Int) (y : Int) (r.length + 1) (by rw [up_len]; rfl), up_cons, List.append_assoc, List.singleton_append, set_at (up r) _ (y : Int) (x : Int) r.length (up_len r)]
      rw [e6]
      refine ih ((y : Int) :: b) (fun z h => hz z (List.mem_cons_of_mem _ h)) (by simp; omega) ?_
      rw [insr, if_pos c, up_cons, List.append_assoc, List.singleton_append] at h
      exact h
    · refine Ev_f (by omega) ?_
      rw [wr64s x (by omega)]
      rw [insr, if_neg c, up_cons, List.append_assoc, List.singleton_append] at h
      exact h
theorem impl_order (m : List Fe) (f : Fe) (D : Nat → Int) (hD : ∀ i (h : i < m.length), 0 ≤ D i ∧ D i ≤ 1530 ∧ Ev (fun k => spec_l26Away.f k [m[i]] [f]) (D i) ∧ Ev (fun k => impl_featureDistance.f k m[i].f0 m[i].f1 f.f0 f.f1) (D i)) (hsm : m.length ≤ 16) :
    Ev (fun k => slices_SortStableFunc_int64_int64.f k (rng 0 m.length) [m] [f]) (up (ranks D m.length)) := by
  have go : ∀ (d i : Nat), i + d = m.length → Ev (fun k => slices_insertionSortCmpFunc_int64.l0 k (up (ranks D i) ++ rng i m.length) 0 (m.length : Int) i [m] [f]) (up (ranks D m.length)) := by
    intro d
    induction d with
    | zero =>
      intro i h
      refine Ev_suc ?_
      simp only [slices_insertionSortCmpFunc_int64.l0]
      obtain rfl : i = m.length := by omega
      exact Ev_f (by omega) (Ev_n (by rw [rng_nil, List.append_nil]))
    | succ d ih =>
      intro i h
      refine Ev_suc ?_
      simp only [slices_insertionSortCmpFunc_int64.l0]
      refine Ev_t (by omega) ?_
      rw [rng_cons i _ (by omega)]
      have := impl_ins m f D hD (by omega) i (by omega) (m.length : Int) _ (ranks D i) (rng (i + 1) m.length) (fun z h => by rw [ranks_mem] at h; omega) (by rw [ranks_len, rng_len]; omega) (ih (i + 1) (by omega))
      rw [ranks_len] at this
      exact this
  have ins : Ev (fun k => slices_insertionSortCmpFunc_int64.f k (rng 0 m.length) 0 (m.length : Int) [m] [f]) (up (ranks D m.length)) := by
    simp only [slices_insertionSortCmpFunc_int64.f]
    rw [show wrap64 ((0 : Int) + 1) = 1 by rw [wr64 (by omega) (by omega)]; rfl]
    by_cases h0 : m.length = 0
    · refine Ev_suc ?_
      simp only [slices_insertionSortCmpFunc_int64.l0]
      rw [h0]
      exact Ev_f (by decide) (Ev_n rfl)
    · have := go (m.length - 1) 1 (by omega)
      rw [show up (ranks D 1) ++ rng 1 m.length = rng 0 m.length by rw [rng_cons 0 _ (by omega)]; rfl] at this
      exact this
  simp only [slices_SortStableFunc_int64_int64.f]
  refine Ev_b ?_ (Ev_n rfl)
  have hl : ((rng 0 m.length).length : Int) = (m.length : Int) := by rw [rng_len]; omega
  rw [hl]
  simp only [slices_stableCmpFunc_int64.f]
  refine Ev_suc ?_
  simp only [slices_stableCmpFunc_int64.l0]
  refine Ev_f (by omega) (Ev_b ins (Ev_suc ?_))
  simp only [slices_stableCmpFunc_int64.l1]
  exact Ev_f (by omega) (Ev_n rfl)
theorem ranked_ev (m : List Fe) (hl : (m.length : Int) ≤ 1048576) (f : Fe) (hf : (f.f1.length : Int) ≤ 1048576) : ∃ (r0 : List Int) (r1 : Int), (r0.length : Int) ≤ 1048576 ∧ Ev (fun k => spec_RankedFeatures.f k m f.f0 f.f1) (r0, r1) ∧ Ev (fun k => impl_RankedFeatures.f k m f.f0 f.f1) (r0, r1) ∧
    (r1 = 0 → m.length ≤ 16 ∧ (∀ y ∈ m, vF y) ∧ vF f ∧ ∃ D : Nat → Int, (∀ i (h : i < m.length), 0 ≤ D i ∧ D i ≤ 1530 ∧ Ev (fun k => spec_l26Away.f k [m[i]] [f]) (D i) ∧ Ev (fun k => impl_featureDistance.f k m[i].f0 m[i].f1 f.f0 f.f1) (D i)) ∧ r0 = up (ranks D m.length)) ∧ (∃ b, Ev (fun k => spec_l26Ok.f k m) b ∧ Ev (fun k => impl_ValidFeatures.f k m) b ∧ ∃ c, Ev (fun k => spec_l26One.f k [f]) c ∧ Ev (fun k => impl_ValidFeature.f k f.f0 f.f1) c ∧ r1 = if b = true ∧ c = true then 0 else 1) := by
  obtain ⟨b, hb, hbk⟩ := validS_ev m hl
  obtain ⟨c, hc, hck⟩ := valid_ev f.f0 f.f1
  have b1 : Ev (fun k => spec_l26Ok.f k m) b := Ev_all (fun k h => (hbk k h).1)
  have b2 : Ev (fun k => impl_ValidFeatures.f k m) b := Ev_all (fun k h => (hbk k h).2)
  have c1 : Ev (fun k => spec_l26One.f k [f]) c := Ev_all (fun k h => (hck k h).1)
  have c2 : Ev (fun k => impl_ValidFeature.f k f.f0 f.f1) c := Ev_all (fun k h => (hck k h).2)
  have bad : (b = false ∨ (b = true ∧ c = false)) → Ev (fun k => spec_RankedFeatures.f k m f.f0 f.f1) ([], 1) ∧ Ev (fun k => impl_RankedFeatures.f k m f.f0 f.f1) ([], 1) := by
    intro h
    simp only [spec_RankedFeatures.f, impl_RankedFeatures.f]
    rcases h with rfl | ⟨rfl, rfl⟩
    · exact ⟨Ev_b b1 (Ev_f (by decide) (Ev_suc (by simp only [spec_RankedFeatures.j0]; exact Ev_t (by simp) (Ev_n rfl)))), Ev_b b2 (Ev_f (by decide) (Ev_suc (by simp only [impl_RankedFeatures.j0]; exact Ev_t (by simp) (Ev_n rfl))))⟩
    · exact ⟨Ev_b b1 (Ev_t rfl (Ev_b c1 (Ev_suc (by simp only [spec_RankedFeatures.j0]; exact Ev_t (by simp) (Ev_n rfl))))), Ev_b b2 (Ev_t rfl (Ev_b c2 (Ev_suc (by simp only [impl_RankedFeatures.j0]; exact Ev_t (by simp) (Ev_n rfl)))))⟩
  cases b with
  | false => exact ⟨[], 1, by simp, (bad (.inl rfl)).1, (bad (.inl rfl)).2, fun h => absurd h (by decide), false, b1, b2, c, c1, c2, by simp⟩
  | true =>
    cases c with
    | false => exact ⟨[], 1, by simp, (bad (.inr ⟨rfl, rfl⟩)).1, (bad (.inr ⟨rfl, rfl⟩)).2, fun h => absurd h (by decide), true, b1, b2, false, c1, c2, by simp⟩
    | true =>
      obtain ⟨h16, hv⟩ := hb rfl
      have hvf : vF f := hc rfl
      obtain ⟨D, hD⟩ := dist_fun m f hv hvf
      refine ⟨up (ranks D m.length), 0, by rw [up_len, ranks_len]; exact hl, ?_, ?_, fun _ => ⟨h16, hv, hvf, D, hD, rfl⟩, true, b1, b2, true, c1, c2, by simp⟩
      · simp only [spec_RankedFeatures.f]
        refine Ev_b b1 (Ev_t rfl (Ev_b c1 (Ev_suc ?_)))
        simp only [spec_RankedFeatures.j0]
        refine Ev_f (by decide) ?_
        have go : ∀ (d i : Nat) (ds : List Int), i + d = m.length → ds.length = i → (∀ j, j < i → rd ds (j : Int) = - D j) → Ev (fun k => spec_RankedFeatures.l0 k m ds i f.f0 f.f1) (up (ranks D m.length), 0) := by
          intro d
          induction d with
          | zero =>
            intro i ds h h1 h2
            refine Ev_suc ?_
            simp only [spec_RankedFeatures.l0]
            obtain rfl : i = m.length := by omega
            exact Ev_f (by omega) (Ev_b (spec_order D m.length ds h1 (by omega) h2) (Ev_n rfl))
          | succ d ih =>
            intro i ds h h1 h2
            obtain ⟨v0, v1, ve, _⟩ := hD i (by omega)
            refine Ev_suc ?_
            simp only [spec_RankedFeatures.l0]
            rw [rdF_in m i (by omega)]
            refine Ev_t (by omega) (Ev_t (by omega) (Ev_b ve (Ev_t (by omega) ?_)))
            rw [wr64s i (by omega), wr64 (x := -D i) (by omega) (by omega)]
            refine ih (i + 1) _ (by omega) (by simp [h1]) (fun j hj => ?_)
            by_cases hji : j = i
            · subst hji; exact rd_mid ds [] _ _ h1
            · have h3 := h2 j (by omega)
              unfold rd at h3 ⊢
              rw [← h3, List.getD_eq_getElem?_getD, List.getD_eq_getElem?_getD, List.getElem?_append_left (by simp; omega)]
        exact go m.length 0 [] (by omega) rfl (fun j hj => absurd hj (by omega))
      · simp only [impl_RankedFeatures.f]
        refine Ev_b b2 (Ev_t rfl (Ev_b c2 (Ev_suc ?_)))
        simp only [impl_RankedFeatures.j0]
        refine Ev_f (by decide) ?_
        have go : ∀ (d i : Nat), i + d = m.length → Ev (fun k => impl_RankedFeatures.l0 k (rng 0 i) (m.length : Int) i m f.f0 f.f1) (up (ranks D m.length), 0) := by
          intro d
          induction d with
          | zero =>
            intro i h
            refine Ev_suc ?_
            simp only [impl_RankedFeatures.l0]
            obtain rfl : i = m.length := by omega
            exact Ev_f (by omega) (Ev_b (impl_order m f D hD h16) (Ev_n rfl))
          | succ d ih =>
            intro i h
            refine Ev_suc ?_
            simp only [impl_RankedFeatures.l0]
            refine Ev_t (by omega) (Ev_t (by rw [rng_len]; omega) ?_)
            rw [wr64s i (by omega), ← rng_last]
            exact ih (i + 1) (by omega)
        exact go m.length 0 (by omega)
end Go.Proofs.Yteafahnopgmgoaa.Q
namespace Go.Proofs.Yteafahnopgmgoaa.Q
open Go.RowKit Go.Proofs.YteafahnopgmgoaaW.PrintWords Go.Proofs.YteafahnopgmgoaaW.PrintLast Go.Proofs.YteafahnopgmgoaaW.PrintMore
set_option linter.unusedVariables false
theorem eqF_of (a : ByteArray) {l : List Int} (h : Ev (fun k => laws_eqInt64S.f k l l) true) : Ev (fun k => laws_eqFeature.f k a l a l) true := by
  simp only [laws_eqFeature.f]
  exact Ev_t True.intro (Ev_b h (Ev_t rfl (Ev_n rfl)))
end Go.Proofs.Yteafahnopgmgoaa.Q
namespace Go.Proofs.Yteafahnopgmgoaa.Q
open Go.RowKit Go.Proofs.YteafahnopgmgoaaW.PrintWords Go.Proofs.YteafahnopgmgoaaW.PrintLast Go.Proofs.YteafahnopgmgoaaW.PrintMore
set_option linter.unusedVariables false
def bst (D : Nat → Int) : Nat → Nat
  | 0 => 0
  | n + 1 => if n = 0 then 0 else if D n < D (bst D n) then n else bst D n
theorem insr_last1 (D : Nat → Int) (x b : Nat) (h : D x < D b) : ∀ r : List Nat, (∀ y ∈ r, D b ≤ D y) → insr D x (r ++ [b]) = (r ++ [b]) ++ [x]
  | [], _ => by simp [insr, h]
  | y :: r, hr => by
    have := hr y (List.mem_cons_self ..)
    rw [List.cons_append, insr, if_pos (by omega), insr_last1 D x b h r (fun z hz => hr z (List.mem_cons_of_mem _ hz))]
    rfl
theorem insr_last2 (D : Nat → Int) (x b : Nat) (h : ¬ D x < D b) : ∀ r : List Nat, ∃ s, insr D x (r ++ [b]) = s ++ [b]
  | [] => ⟨[x], by simp [insr, h]⟩
  | y :: r => by
    rw [List.cons_append, insr]
    split
    · obtain ⟨s, hs⟩ := insr_last2 D x b h r
      exact ⟨y :: s, by rw [hs]; rfl⟩
    · exact ⟨x :: y :: r, by simp⟩
theorem ranks_last (D : Nat → Int) : ∀ n, ∃ s, ranks D (n + 1) = s ++ [bst D (n + 1)] ∧ bst D (n + 1) < n + 1 ∧ ∀ y ∈ ranks D (n + 1), D (bst D (n + 1)) ≤ D y
  | 0 => ⟨[], by simp [ranks, insr, bst], by simp [bst], by simp [ranks, insr, bst]⟩
  | n + 1 => by
    obtain ⟨s, hs, hlt, hmin⟩ := ranks_last D n
    have hr : ranks D (n + 1 + 1) = insr D (n + 1) (s ++ [bst D (n + 1)]) := by rw [ranks, hs]
    have hin : ∀ y ∈ s, D (bst D (n + 1)) ≤ D y := fun y hy => hmin y (by rw [hs]; exact List.mem_append_left _ hy)
    have hb : bst D (n + 1 + 1) = if D (n + 1) < D (bst D (n + 1)) then n + 1 else bst D (n + 1) := by rw [bst, if_neg (by omega)]
    by_cases c : D (n + 1) < D (bst D (n + 1))
    · rw [if_pos c] at hb
      rw [hb, hr]
      refine ⟨_, insr_last1 D _ _ c s hin, by omega, fun y hy => ?_⟩
      rw [insr_mem] at hy
      rcases hy with rfl | hy
      · exact Int.le_refl _
      · have := hmin y (by rw [hs]; exact hy); omega
    · rw [if_neg c] at hb
      rw [hb, hr]
      obtain ⟨s2, hs2⟩ := insr_last2 D (n + 1) _ c s
      refine ⟨s2, hs2, by omega, fun y hy => ?_⟩
      rw [insr_mem] at hy
      rcases hy with rfl | hy
      · omega
      · exact hmin y (by rw [hs]; exact hy)
theorem up_last (s : List Nat) (b : Nat) : up (s ++ [b]) = (b : Int) :: up s := by simp [up]
theorem nearest_ev (m : List Fe) (hl : (m.length : Int) ≤ 1048576) (f : Fe) (hf : (f.f1.length : Int) ≤ 1048576) : ∃ v : Int × Int × Int, Ev (fun k => spec_NearestFeature.f k m f.f0 f.f1) v ∧ Ev (fun k => impl_NearestFeature.f k m f.f0 f.f1) v := by
  obtain ⟨r0, r1, _, _, e2, hok, b, b1, b2, c, c1, c2, hr⟩ := ranked_ev m hl f hf
  by_cases hbc : b = true ∧ c = true
  case neg =>
    rw [if_neg hbc] at hr
    subst hr
    refine ⟨(0, 0, 1), ?_, ?_⟩
    · simp only [spec_NearestFeature.f]
      cases b with
      | false => exact Ev_b b1 (Ev_f (by decide) (Ev_suc (by simp only [spec_NearestFeature.j0]; exact Ev_t (by simp) (Ev_n rfl))))
      | true =>
        cases c with
        | false => exact Ev_b b1 (Ev_t rfl (Ev_b c1 (Ev_suc (by simp only [spec_NearestFeature.j0]; exact Ev_t (by simp) (Ev_n rfl)))))
        | true => exact absurd ⟨rfl, rfl⟩ hbc
    · simp only [impl_NearestFeature.f]
      refine Ev_b e2 (Ev_f (by simp) (Ev_suc ?_))
      simp only [impl_NearestFeature.j0]
      exact Ev_f (by decide) (Ev_f (by decide) (Ev_n rfl))
  rw [if_pos hbc] at hr
  obtain ⟨rfl, rfl⟩ := hbc
  subst hr
  obtain ⟨h16, hv, hvf, D, hD, rfl⟩ := hok rfl
  by_cases h0 : m.length = 0
  · refine ⟨(0, 0, 3), ?_, ?_⟩
    · simp only [spec_NearestFeature.f]
      refine Ev_b b1 (Ev_t rfl (Ev_b c1 (Ev_suc ?_)))
      simp only [spec_NearestFeature.j0]
      exact Ev_f (by simp) (Ev_t (by omega) (Ev_n rfl))
    · simp only [impl_NearestFeature.f]
      refine Ev_b e2 (Ev_t rfl (Ev_suc ?_))
      simp only [impl_NearestFeature.j0]
      exact Ev_t (by simp [h0]) (Ev_n rfl)
  obtain ⟨n, hn⟩ : ∃ n, m.length = n + 1 := ⟨m.length - 1, by omega⟩
  obtain ⟨s, hs, hlt, hmin⟩ := ranks_last D n
  rw [← hn] at hs hlt hmin
  obtain ⟨v0, v1, ve1, ve2⟩ := hD (bst D m.length) hlt
  refine ⟨((bst D m.length : Nat), D (bst D m.length), 0), ?_, ?_⟩
  · simp only [spec_NearestFeature.f]
    refine Ev_b b1 (Ev_t rfl (Ev_b c1 (Ev_suc ?_)))
    simp only [spec_NearestFeature.j0]
    refine Ev_f (by simp) (Ev_f (by omega) ?_)
    have go : ∀ (d i : Nat), 0 < i → i + d = m.length → bst D i < i → Ev (fun k => spec_NearestFeature.l0 k m (bst D i : Nat) i f.f0 f.f1) ((bst D m.length : Nat), D (bst D m.length), 0) := by
      intro d
      induction d with
      | zero =>
        intro i hi h hb
        refine Ev_suc ?_
        simp only [spec_NearestFeature.l0]
        obtain rfl : i = m.length := by omega
        refine Ev_f (by omega) (Ev_t (by omega) (Ev_t (by omega) ?_))
        rw [rdF_in m _ hb]
        exact Ev_b ve1 (Ev_n rfl)
      | succ d ih =>
        intro i hi h hb
        obtain ⟨_, _, xe, _⟩ := hD i (by omega)
        obtain ⟨_, _, ye, _⟩ := hD (bst D i) (by omega)
        refine Ev_suc ?_
        simp only [spec_NearestFeature.l0]
        rw [rdF_in m i (by omega), rdF_in m _ (show bst D i < m.length by omega)]
        refine Ev_t (by omega) (Ev_t (by omega) (Ev_b xe (Ev_t (by omega) (Ev_t (by omega) (Ev_b ye ?_)))))
        rw [wr64s i (by omega)]
        have hb2 : bst D (i + 1) = if D i < D (bst D i) then i else bst D i := by rw [bst, if_neg (by omega)]
        by_cases c : D i < D (bst D i)
        · rw [if_pos c] at hb2
          refine Ev_t c ?_
          have := ih (i + 1) (by omega) (by omega) (by rw [hb2]; omega)
          rw [hb2] at this
          exact this
        · rw [if_neg c] at hb2
          refine Ev_f c ?_
          have := ih (i + 1) (by omega) (by omega) (by rw [hb2]; omega)
          rw [hb2] at this
          exact this
    exact go (m.length - 1) 1 (by omega) (by omega) (by simp [bst])
  · simp only [impl_NearestFeature.f]
    refine Ev_b e2 (Ev_t rfl (Ev_suc ?_))
    simp only [impl_NearestFeature.j0]
    have e : rd (up (ranks D m.length)) 0 = ((bst D m.length : Nat) : Int) := by rw [hs, up_last]; rfl
    rw [e, rdF_in m _ hlt]
    refine Ev_f (by simp [h0]) (Ev_t (by simp) (Ev_t (by rw [up_len, ranks_len]; omega) (Ev_t (by omega) (Ev_t (by omega) (Ev_b ve2 (Ev_n rfl))))))
end Go.Proofs.Yteafahnopgmgoaa.Q
namespace Go.Proofs.Yteafahnopgmgoaa.Q
open Go.RowKit Go.Proofs.YteafahnopgmgoaaW.PrintWords Go.Proofs.YteafahnopgmgoaaW.PrintLast Go.Proofs.YteafahnopgmgoaaW.PrintMore
set_option linter.unusedVariables false
theorem law_NearestFeature : laws_FnExactNearestFeature.Pure := by
  intro x f hx hf
  have hM : maxLen = 9223372036854775807 := by decide
  refine Ev.rounds (r := true) ?_
  simp only [laws_FnExactNearestFeature.f]
  refine Ev_b (szS_Feature x hx.1 hx.2 (1048576) (by omega) (by omega)) ?_
  by_cases cx : ((ZS_Feature x : Nat) : Int) ≤ 1048576
  case neg => rw [cut_neg cx]; exact Ev_t (by decide) (Ev_n rfl)
  rw [cut_pos cx]
  refine Ev_f (by omega) ?_
  refine Ev_b (sz_Feature f hf (1048576 - ((ZS_Feature x : Nat) : Int)) (by omega) (by omega)) ?_
  by_cases cf : ((Z_Feature f : Nat) : Int) ≤ 1048576 - ((ZS_Feature x : Nat) : Int)
  case neg => rw [cut_neg cf]; exact Ev_t (by decide) (Ev_n rfl)
  rw [cut_pos cf]
  refine Ev_f (by omega) ?_
  have nx : (x.length : Int) ≤ 1048576 := by have := (ZS_in_Feature x).1; omega
  have bx : ∀ q_ ∈ x, B_Feature q_ := fun q_ hq_ => B_of_Feature q_ (by have := (ZS_in_Feature x).2 q_ hq_; omega)
  have mx : ((x.map conv_Feature).length : Int) ≤ 1048576 := by simpa using nx
  have Ex : ∀ q_ ∈ x.map conv_Feature, E_Feature q_ := fun y hy => by obtain ⟨u, hu, rfl⟩ := List.mem_map.1 hy; exact E_of_Feature u (bx u hu)
  have tx := toS_Feature x nx bx
  have qx := eqS_Feature (x.map conv_Feature) mx Ex
  have zx : ∀ q_ ∈ x.map conv_Feature, ∃ u ∈ x, conv_Feature u = q_ ∧ ((Z_Feature u : Nat) : Int) ≤ 1048576 := fun y hy => by obtain ⟨u, hu, e⟩ := List.mem_map.1 hy; exact ⟨u, hu, e, by have := (ZS_in_Feature x).2 u hu; omega⟩
  have bf : B_Feature f := B_of_Feature f (by omega)
  have tf := to_Feature f bf
  obtain ⟨⟨r0, r1, r2⟩, e1, e2⟩ := nearest_ev (x.map conv_Feature) mx (conv_Feature f) (by unfold Z_Feature at cf; show ((f.f1.length : Nat) : Int) ≤ 1048576; omega)
  have lf : ((conv_Feature f).f1.length : Int) ≤ 1048576 := (by unfold Z_Feature at cf; show ((f.f1.length : Nat) : Int) ≤ 1048576; omega)
  have qf := eqF_of (conv_Feature f).f0 (eq_Int64S (conv_Feature f).f1 lf)
  repeat' (first | ((first | (with_reducible refine Ev_b e1 ?_) | (with_reducible refine Ev_b e2 ?_) | (with_reducible refine Ev_b tx ?_) | (with_reducible refine Ev_b qx ?_) | (with_reducible refine Ev_b tf ?_) | (with_reducible refine Ev_b qf ?_)); try dsimp only) | (with_reducible refine Ev_t rfl ?_) | (with_reducible refine Ev_t True.intro ?_) | (refine Ev_f (by omega) ?_) | (refine Ev_t (by omega) ?_) | (refine Ev_f (by simp) ?_) | exact Ev_n rfl | (refine Ev_suc ?_; first | simp only [laws_FnExactNearestFeature.j0] | simp only [laws_FnExactNearestFeature.j1] | simp only [laws_FnExactNearestFeature.j2]))
end Go.Proofs.Yteafahnopgmgoaa.Q
namespace Go.Proofs.Yteafahnopgmgoaa.Pure
open Go.Proofs.Yteafahnopgmgoaa.Q
theorem FnExactNearestFeature : laws_FnExactNearestFeature.Pure := law_NearestFeature
end Go.Proofs.Yteafahnopgmgoaa.Pure
namespace Go.Proofs.Yteafahnopgmgoaa.fnExactNearestFeature
open Go.ChangeShapes Go.WideShapes Go.ChangeAt Go.RowKit Go.Proofs.Yteafahnopgmgoaa.OPN Go.Proofs.Yteafahnopgmgoaa.Q Go.Proofs.YteafahnopgmgoaaW.PrintWords
open Go.ChangeMaps (open_string shut_string)
set_option linter.unusedVariables false
theorem own : ownKnob Try.prog.godebug = none := by kernel_rfl
theorem laidOut : laidOutB Try.prog = true := by kernel_rfl
set_option maxRecDepth 100000 in
theorem lifted (os : Os) (started : os.Started) (H : Type) (enc : TypeId × Value → H) :
    ReturnsInHanded {} Try.checked os 9 .any (Rows.fnExactNearestFeatureSpec.pre6 enc Try.prog Try.f9 Rows.fnExactNearestFeatureRow.domain false) (Rows.fnExactNearestFeatureSpec.post enc Try.prog Try.f9 false true false false) := by
  refine returnsInHanded_of_change_sized (C := Try.checked) own started (by kernel_rfl) Try.func9
    (ChangeSpec.witness6 (enc := enc) (C := Try.checked) false ⟨#[], #[.slice none 0 0, .agg #[.string ByteArray.empty, .slice none 0 0]], []⟩ 8 (by kernel_rfl) (by kernel_rfl) (by kernel_rfl) (by kernel_rfl)) ?_
  intro W base args ds gs before hval0 hW hcnd hsz0 _
  have hval : ∀ (j : Nat) t v, Try.f9.params[j]? = some t → args[j]? = some v → Value.okWide Try.prog W .any base t v := hval0
  have hW' := hW
  obtain ⟨p, q, hA0, hV, rfl, hfz, hnd⟩ := hW
  have hA : DataW.TrodAll enc Try.prog W 0 (fun _ => true) true Try.f9.params.toList args.toList ds p := hA0
  rw [Try.params9] at hA hval
  obtain ⟨v0, vs0, d0, ds0, p0, q0, hargs, rfl, rfl, h0, r0⟩ := trodAll_cons hA
  obtain ⟨v1, vs1, d1, ds1, p1, q1, rfl, rfl, rfl, h1, r1⟩ := trodAll_cons r0
  obtain ⟨rfl, rfl, rfl⟩ := trodAll_nil r1
  obtain rfl : args = #[v0, v1] := by cases args; simp_all
  obtain ⟨rfl, rfl⟩ := trodVars_none hV
  have lt0 : ∀ x ∈ p0, x.block < W.heap.size := by obtain ⟨m, hm⟩ := h0; exact DataW.trod_lt m _ _ _ hm
  have k0 := h0
  obtain ⟨z0, y0, u0, rfl⟩ := okWide_slice Try.underlying32 (hval 0 32 v0 rfl rfl)
  obtain ⟨fu0, hf0⟩ := h0
  obtain ⟨x0, ⟨A0, c0, hcs0, hc0, hr0⟩, w0⟩ := ((opn_slice Try.underlying32 (by kernel_rfl) opn24) : Opn _ _ (Kd.slice 24 k24) _).get rfl hf0
  obtain ⟨rfl, rfl, rfl⟩ : A0 = z0 ∧ x0.length = y0 ∧ c0 = u0 := (fun (h_ : z0 = A0 ∧ y0 = x0.length ∧ u0 = c0) => ⟨h_.1.symm, h_.2.1.symm, h_.2.2.symm⟩) (by simpa [Value.cells] using hcs0)
  have lt1 : ∀ x ∈ p1, x.block < W.heap.size := by obtain ⟨m, hm⟩ := h1; exact DataW.trod_lt m _ _ _ hm
  have k1 := h1
  obtain ⟨cs1, rfl, hs1⟩ := okWide_struct Try.underlying24 (hval 1 24 v1 rfl rfl)
  obtain ⟨fu1, hf1⟩ := h1
  obtain ⟨x1, hK1, w1⟩ := opn24.get (by rw [← opn24.size, ← hs1]; simp [Value.cells]) hf1
  obtain ⟨A1_1, c1_1, hcs1, hc1_1, hr1_1⟩ := k24_open hK1
  obtain rfl : cs1 = #[.string x1.f0, .slice A1_1 x1.f1.length c1_1] := by apply Array.ext'; exact hcs1
  clear hA0 hval0 hsz0
  obtain ⟨k, hP⟩ := Pure.FnExactNearestFeature x0 x1 w0 w1
  refine (laws_FnExactNearestFeature.calls k A0 c0 x0 x1.f0 A1_1 c1_1 x1.f1 true W hr0 hc0 hr1_1 hc1_1 hP).mono fun e W' hh => ?_
  obtain ⟨rfl, bel0⟩ := hh
  have bel : Below W.heap.size W W' := bel0
  exact ⟨_, rfl, _, _, _, [], _, [], hW', trodAll_mk1 (shut_bool Try.underlying4 _), (trodAll_cons_mk (Below.trod laidOut (by kernel_rfl) (of_decide_eq_true (by kernel_rfl)) k0 bel lt0) (trodAll_cons_mk (Below.trod laidOut (by kernel_rfl) (of_decide_eq_true (by kernel_rfl)) k1 bel lt1) trodAll_mk0)), rfl, bel.frame _, fun h => by cases h⟩
theorem over : Rows.fnExactNearestFeatureRow.holds Try.pinned (OpenSpec.ofChange Rows.fnExactNearestFeatureSpec) :=
  OpenClaim.holds_of_wide 9 Try.f9 rfl rfl rfl rfl rfl rfl rfl ⟨rfl, rfl, rfl, rfl, rfl⟩ rfl rfl rfl rfl rfl (by kernel_rfl) Try.func9 (by kernel_rfl)
    (of_decide_eq_true (by kernel_rfl)) (by unfold Func.isWrapper; first | (rw [if_pos (by decide +kernel)]; kernel_rfl) | (rw [if_neg (by decide +kernel)]; exact ⟨rfl, rfl⟩))
    (fun os started H enc _ => lifted os started H enc)
theorem proved : Rows.FnExactNearestFeatureSaid := over
#print axioms proved
end Go.Proofs.Yteafahnopgmgoaa.fnExactNearestFeature
namespace Go.Proofs.Yteafahnopgmgoaa
theorem fnExactNearestFeature_holds : Rows.FnExactNearestFeatureSaid := fnExactNearestFeature.proved
end Go.Proofs.Yteafahnopgmgoaa
