/- For all rooms, stocks and first pieces, the program's RowJoints returns what the reference's returns; no condition. This text holds the last walks, the plain law and the row. -/
import Derived.Test.YtmdhniaelmipcaaRows
import Derived.WalkKit
import Derived.ProofKit
import Derived.OpenShut
import Derived.ShutString
import Derived.ChangeOld
import Derived.Below
import Derived.SizedLaws
import Derived.Carry
import Derived.Test.YtmdhniaelmipcaaKFnExactRowJointsa
import Derived.Test.YtmdhniaelmipcaaKFnExactRowJointsc
import Derived.Test.YtmdhniaelmipcaaKFnExactRowJointsb
namespace Go.Proofs.Ytmdhniaelmipcaa.Q
open Go.RowKit Go.Proofs.YtmdhniaelmipcaaW.PrintWords Go.Proofs.YtmdhniaelmipcaaW.PrintLast Go.Proofs.YtmdhniaelmipcaaW.PrintMore
attribute [local go_sem] max2_int min2_int max_two min_two max_three min_three max_four min_four   -- for this text's walks alone
set_option linter.unusedVariables false
set_option linter.unusedSimpArgs false

/-! ### laws_FnExactRowCount: function 8 -/
def laws_FnExactRowCount.f (a0_0 : Int) (a0_1 : Int) (a1_0 : Int) (a1_1 : Int) (a1_2 : Int) (a1_3 : Int) : Option (Bool) := (laws_toRoom.f a0_0 a0_1).bind fun bt103 => ((laws_toStock.f a1_0 a1_1 a1_2 a1_3).bind fun bt105 => ((spec_RowCount.f bt103.1 bt103.2 bt105.1 bt105.2.1 bt105.2.2.1 bt105.2.2.2).bind fun bt109 => ((laws_toRoom.f a0_0 a0_1).bind fun bt111 => ((laws_toStock.f a1_0 a1_1 a1_2 a1_3).bind fun bt113 => ((impl_RowCount.f bt111.1 bt111.2 bt113.1 bt113.2.1 bt113.2.2.1 bt113.2.2.2).bind fun bt117 => (if bt117.1 = bt109.1 then (if bt117.2 = bt109.2 then (some true) else (some false)) else (some false)))))))
def laws_FnExactRowCount.T1 : Bool × List (List Nat × List Nat) := (true, [([], []), ([0], [0]), ([], []), ([2, 1], [2]), ([1, 3, 3], [1, 3]), ([4], [4]), ([5], [5]), ([5], [5]), ([6, 4, 0, 1, 2, 3, 4, 5, 6], [6]), ([7, 8, 0, 1, 2, 3, 4, 5, 6, 7, 8], [7])])
def laws_FnExactRowCount.B1 : List Nat := [0, 1, 0, 7, 15, 31, 63, 63, 127, 511]
theorem laws_FnExactRowCount.tab1 : rtab .any (opsOf Try.f8 1) = laws_FnExactRowCount.T1 := by kernel_rfl
theorem laws_FnExactRowCount.bits1 : waitsOk laws_FnExactRowCount.T1.2 laws_FnExactRowCount.B1 = true := by kernel_rfl
def laws_FnExactRowCount.T2 : Bool × List (List Nat × List Nat) := (true, [([], []), ([0], [0]), ([], []), ([2, 1], [2]), ([1, 3, 3], [1, 3]), ([4], [4]), ([5], [5]), ([5], [5]), ([6, 4, 0, 1, 2, 3, 4, 5, 6], [6]), ([7, 8, 0, 1, 2, 3, 4, 5, 6, 7, 8], [7])])
def laws_FnExactRowCount.B2 : List Nat := [0, 1, 0, 7, 15, 31, 63, 63, 127, 511]
theorem laws_FnExactRowCount.tab2 : rtab .any (opsOf Try.f8 2) = laws_FnExactRowCount.T2 := by kernel_rfl
theorem laws_FnExactRowCount.bits2 : waitsOk laws_FnExactRowCount.T2.2 laws_FnExactRowCount.B2 = true := by kernel_rfl
set_option maxHeartbeats 8000000 in
set_option maxRecDepth 100000 in
theorem laws_FnExactRowCount.calls (a0_0 : Int) (a0_1 : Int) (a1_0 : Int) (a1_1 : Int) (a1_2 : Int) (a1_3 : Int) (r : Bool) (w : World) (h : laws_FnExactRowCount.f a0_0 a0_1 a1_0 a1_1 a1_2 a1_3 = some r) :
    Calls Try.prog 8 #[.agg #[.int .i64 a0_0, .int .i64 a0_1], .agg #[.int .i64 a1_0, .int .i64 a1_1, .int .i64 a1_2, .int .i64 a1_3]] w fun e w' => e = .returned (.bool r) ∧ Below w.heap.size w w' := by
  have hu23 := Try.underlying23
  have hu29 := Try.underlying29
  have HB := Aside0.mk (Below.refl w.heap.size w)
  have H : ((laws_toRoom.f a0_0 a0_1).bind fun bt103 => ((laws_toStock.f a1_0 a1_1 a1_2 a1_3).bind fun bt105 => ((spec_RowCount.f bt103.1 bt103.2 bt105.1 bt105.2.1 bt105.2.2.1 bt105.2.2.2).bind fun bt109 => ((laws_toRoom.f a0_0 a0_1).bind fun bt111 => ((laws_toStock.f a1_0 a1_1 a1_2 a1_3).bind fun bt113 => ((impl_RowCount.f bt111.1 bt111.2 bt113.1 bt113.2.1 bt113.2.2.1 bt113.2.2.2).bind fun bt117 => (if bt117.1 = bt109.1 then (if bt117.2 = bt109.2 then (some true) else (some false)) else (some false)))))))) = some r := h
  clear h
  replace H := Option.bind_eq_some_iff.mp H
  obtain ⟨⟨t103, t104⟩, A30, H⟩ := H
  replace H : ((laws_toStock.f a1_0 a1_1 a1_2 a1_3).bind fun bt105 => ((spec_RowCount.f t103 t104 bt105.1 bt105.2.1 bt105.2.2.1 bt105.2.2.2).bind fun bt109 => ((laws_toRoom.f a0_0 a0_1).bind fun bt111 => ((laws_toStock.f a1_0 a1_1 a1_2 a1_3).bind fun bt113 => ((impl_RowCount.f bt111.1 bt111.2 bt113.1 bt113.2.1 bt113.2.2.1 bt113.2.2.2).bind fun bt117 => (if bt117.1 = bt109.1 then (if bt117.2 = bt109.2 then (some true) else (some false)) else (some false))))))) = some r := H
  have A3 := Aside0.mk A30
  clear A30
  replace H := Option.bind_eq_some_iff.mp H
  obtain ⟨⟨t105, t106, t107, t108⟩, A40, H⟩ := H
  replace H : ((spec_RowCount.f t103 t104 t105 t106 t107 t108).bind fun bt109 => ((laws_toRoom.f a0_0 a0_1).bind fun bt111 => ((laws_toStock.f a1_0 a1_1 a1_2 a1_3).bind fun bt113 => ((impl_RowCount.f bt111.1 bt111.2 bt113.1 bt113.2.1 bt113.2.2.1 bt113.2.2.2).bind fun bt117 => (if bt117.1 = bt109.1 then (if bt117.2 = bt109.2 then (some true) else (some false)) else (some false)))))) = some r := H
  have A4 := Aside0.mk A40
  clear A40
  replace H := Option.bind_eq_some_iff.mp H
  obtain ⟨⟨t109, t110⟩, A50, H⟩ := H
  replace H : ((laws_toRoom.f a0_0 a0_1).bind fun bt111 => ((laws_toStock.f a1_0 a1_1 a1_2 a1_3).bind fun bt113 => ((impl_RowCount.f bt111.1 bt111.2 bt113.1 bt113.2.1 bt113.2.2.1 bt113.2.2.2).bind fun bt117 => (if bt117.1 = t109 then (if bt117.2 = t110 then (some true) else (some false)) else (some false))))) = some r := H
  have A5 := Aside0.mk A50
  clear A50
  replace H := Option.bind_eq_some_iff.mp H
  obtain ⟨⟨t111, t112⟩, A60, H⟩ := H
  replace H : ((laws_toStock.f a1_0 a1_1 a1_2 a1_3).bind fun bt113 => ((impl_RowCount.f t111 t112 bt113.1 bt113.2.1 bt113.2.2.1 bt113.2.2.2).bind fun bt117 => (if bt117.1 = t109 then (if bt117.2 = t110 then (some true) else (some false)) else (some false)))) = some r := H
  have A6 := Aside0.mk A60
  clear A60
  replace H := Option.bind_eq_some_iff.mp H
  obtain ⟨⟨t113, t114, t115, t116⟩, A70, H⟩ := H
  replace H : ((impl_RowCount.f t111 t112 t113 t114 t115 t116).bind fun bt117 => (if bt117.1 = t109 then (if bt117.2 = t110 then (some true) else (some false)) else (some false))) = some r := H
  have A7 := Aside0.mk A70
  clear A70
  replace H := Option.bind_eq_some_iff.mp H
  obtain ⟨⟨t117, t118⟩, A80, H⟩ := H
  replace H : (if t117 = t109 then (if t118 = t110 then (some true) else (some false)) else (some false)) = some r := H
  have A8 := Aside0.mk A80
  clear A80
  by_cases c9 : t117 = t109
  · rw [if_pos c9] at H
    have c9b0 : (t117 == t109) = true := beq_iff_eq.mpr c9
    have c9b1 : (t117 != t109) = false := bne_eq_false_iff_eq.mpr c9
    clear c9
    have HC10 := Aside0.mk H
    clear H
    go_enter Try.func8, Try.ntmps8
    try go_wp2_with (first | ((with_reducible refine gate_dst (N := 2) rfl ?_); refine box_event ?hg (N := 2) ?hd (cs := #[.int .i64 a0_0, .int .i64 a0_1]) (t := 23) ?hr ?_; (case hd => rfl); (case hg => rfl); (case hr => first | (go_simp; done) | (go_simp; rfl)); intro gb101 hg w11 hbox hb; have n0_ := Aside0.mk (below_step (by repeat (first | (with_reducible first | exact HB.out | apply below_alloc | apply pw_below_drewN | apply below_drew1) | exact HB.out)) hb); have n1_ := Aside0.mk (hbox); have n2_ := Aside0.mk ((by rw [hg]; exact (below_size (by repeat (first | (with_reducible first | exact HB.out | apply below_alloc | apply pw_below_drewN | apply below_drew1) | exact HB.out))) : w.heap.size ≤ gb101)); have n3_ := Aside0.mk ((by rw [hg]; exact (below_size (by repeat (first | (with_reducible first | exact HB.out | apply below_alloc | apply pw_below_drewN | apply below_drew1) | exact HB.out))) : w.heap.size ≤ gb101)); clear HB; have HB := n0_; have BK101 := n1_; have GW101 := n2_; have GE101 := n3_; clear n0_ n1_ n2_ n3_; clear hb hbox hg) | ((with_reducible refine gate_dst (N := 3) rfl ?_); refine box_event ?hg (N := 3) ?hd (cs := #[.int .i64 a1_0, .int .i64 a1_1, .int .i64 a1_2, .int .i64 a1_3]) (t := 29) ?hr ?_; (case hd => rfl); (case hg => rfl); (case hr => first | (go_simp; done) | (go_simp; rfl)); intro gb102 hg w12 hbox hb; have n0_ := Aside0.mk (blk_below (g := gb101) (o := .cells #[.int .i64 a0_0, .int .i64 a0_1] 23 (0, 0)) (by (with_reducible repeat (first | refine blk_drewN ?_ _ | refine blk_drew ?_ | refine blk_alloc ?_ _)); exact BK101.out) hb); have n1_ := Aside0.mk (below_step (by repeat (first | (with_reducible first | exact HB.out | apply below_alloc | apply pw_below_drewN | apply below_drew1 | refine below_set ?_ GE101.out) | exact HB.out)) hb); have n2_ := Aside0.mk (hbox); have n3_ := Aside0.mk ((by rw [hg]; exact (below_size (by repeat (first | (with_reducible first | exact HB.out | apply below_alloc | apply pw_below_drewN | apply below_drew1 | refine below_set ?_ GE101.out) | exact HB.out))) : w.heap.size ≤ gb102)); have n4_ := Aside0.mk ((by rw [hg]; exact (below_size (by repeat (first | (with_reducible first | exact HB.out | apply below_alloc | apply pw_below_drewN | apply below_drew1 | refine below_set ?_ GE101.out) | exact HB.out))) : w.heap.size ≤ gb102)); have n5_ := Aside0.mk ((by rw [hg]; exact Nat.ne_of_lt (blk_lt (g := gb101) (o := .cells #[.int .i64 a0_0, .int .i64 a0_1] 23 (0, 0)) (by (with_reducible repeat (first | refine blk_drewN ?_ _ | refine blk_drew ?_ | refine blk_alloc ?_ _)); exact BK101.out)) : gb101 ≠ gb102)); have n6_ := Aside0.mk ((by rw [hg]; exact Nat.ne_of_gt (blk_lt (g := gb101) (o := .cells #[.int .i64 a0_0, .int .i64 a0_1] 23 (0, 0)) (by (with_reducible repeat (first | refine blk_drewN ?_ _ | refine blk_drew ?_ | refine blk_alloc ?_ _)); exact BK101.out)) : gb102 ≠ gb101)); clear BK101; clear HB; have BK101 := n0_; have HB := n1_; have BK102 := n2_; have GW102 := n3_; have GE102 := n4_; have NB101_102 := n5_; have NB102_101 := n6_; clear n0_ n1_ n2_ n3_ n4_ n5_ n6_; clear hb hbox hg))
    have n0_ := Aside0.mk (blk_drew BK101.out)
    have n1_ := Aside0.mk (blk_drew BK102.out)
    have n2_ := Aside0.mk (below_drew1 HB.out)
    clear BK101
    clear BK102
    clear HB
    have BK101 := n0_
    have BK102 := n1_
    have HB := n2_
    clear n0_ n1_ n2_
    refine start_ (n := 10) (S := fun w' => w'.cell? ⟨gb101, 0, none⟩ = some (.int .i64 a0_0) ∧ w'.cell? ⟨gb101, 1, none⟩ = some (.int .i64 a0_1) ∧ w'.cell? ⟨gb102, 0, none⟩ = some (.int .i64 a1_0) ∧ w'.cell? ⟨gb102, 1, none⟩ = some (.int .i64 a1_1) ∧ w'.cell? ⟨gb102, 2, none⟩ = some (.int .i64 a1_2) ∧ w'.cell? ⟨gb102, 3, none⟩ = some (.int .i64 a1_3)) (ds := []) #[false, false, false, false, false, false, false, false, false, false] (by kernel_rfl) rfl rfl ⟨(blk_cell BK101.out 0).trans rfl, (blk_cell BK101.out 1).trans rfl, (blk_cell BK102.out 0).trans rfl, (blk_cell BK102.out 1).trans rfl, (blk_cell BK102.out 2).trans rfl, (blk_cell BK102.out 3).trans rfl⟩ (fun hHeld => ?_); refine with_tabW laws_FnExactRowCount.tab1 laws_FnExactRowCount.bits1 (fun HT_ HW_ => ?_)
    generalize w12.drew = w13 at BK101 BK102 HB hHeld ⊢
    refine take_ (i := 0) (N := some 10) (v := ?_) (a' := ?_) #[true, false, false, false, false, false, false, false, false, false] rfl rfl (take_ofW HT_.out HW_.out (by kernel_rfl)) (fun _ _ _ h => h) (Or.inl ⟨by rfl, ?_⟩) hHeld ?_ ?_
    rotate_left
    · rintro w' ⟨s0, s1, s2, s3, s4, s5⟩
      go_simp
      with_reducible rfl
    rotate_left
    · simp only [Act.put, List.setIfInBounds_toArray, List.set_cons_zero, List.set_cons_succ, i64_w, i32_w]
      rfl
    refine take_ (i := 2) (N := some 12) (v := ?_) (a' := ?_) #[true, false, true, false, false, false, false, false, false, false] rfl rfl (take_ofW HT_.out HW_.out (by kernel_rfl)) (fun _ _ _ h => h) (Or.inl ⟨by rfl, ?_⟩) hHeld ?_ ?_
    rotate_left
    · rintro w' ⟨s0, s1, s2, s3, s4, s5⟩
      go_simp
      with_reducible rfl
    rotate_left
    · simp only [Act.put, List.setIfInBounds_toArray, List.set_cons_zero, List.set_cons_succ, i64_w, i32_w]
      rfl
    refine one_ (i := 1) (N := some 11) #[true, true, true, false, false, false, false, false, false, false] rfl rfl (one_of HT_.out (by kernel_rfl)) (by decide) (fun K hK => ?_)
    refine goes_ Try.func14 (by kernel_rfl) rfl #[.agg #[.int .i64 a0_0, .int .i64 a0_1]] (by rfl) rfl rfl (by (try simp only [List.map_toArray, List.map_cons, List.map_nil]); first | done | rfl | (simp only [List.length_drop, List.length_take]; rfl)) ?_
    with_reducible refine (laws_toRoom.calls a0_0 a0_1 t103 t104 _ A3.out).mono ?_
    rintro e w14 ⟨rfl, hb⟩
    refine ⟨_, rfl, ?_⟩
    have n0_ := Aside0.mk (blk_below (g := gb101) (o := .cells #[.int .i64 a0_0, .int .i64 a0_1] 23 (0, 0)) (by (with_reducible repeat (first | refine blk_drewN ?_ _ | refine blk_drew ?_ | refine blk_alloc ?_ _)); exact BK101.out) hb)
    have n1_ := Aside0.mk (blk_below (g := gb102) (o := .cells #[.int .i64 a1_0, .int .i64 a1_1, .int .i64 a1_2, .int .i64 a1_3] 29 (0, 0)) (by (with_reducible repeat (first | refine blk_drewN ?_ _ | refine blk_drew ?_ | refine blk_alloc ?_ _)); exact BK102.out) hb)
    have n2_ := Aside0.mk (below_step (by repeat (first | (with_reducible first | exact HB.out | apply below_alloc | apply pw_below_drewN | apply below_drew1 | refine below_set ?_ GE101.out | refine below_set ?_ GE102.out) | exact HB.out)) hb)
    clear BK101
    clear BK102
    clear HB
    have BK101 := n0_
    have BK102 := n1_
    have HB := n2_
    clear n0_ n1_ n2_
    (try clear hb)
    (try clear hb2)
    (try clear hk)
    (try clear hi)
    refine hK.out _ _ ⟨(blk_cell BK101.out 0).trans rfl, (blk_cell BK101.out 1).trans rfl, (blk_cell BK102.out 0).trans rfl, (blk_cell BK102.out 1).trans rfl, (blk_cell BK102.out 2).trans rfl, (blk_cell BK102.out 3).trans rfl⟩ (fun hHeld => ?_)
    clear hK K
    refine norm_ (a' := ?_) ?_ ?_
    rotate_left
    · show Act.put _ (some 11) _ = _
      simp only [Act.put, List.setIfInBounds_toArray, List.set_cons_zero, List.set_cons_succ, i64_w, i32_w]
      rfl
    refine one_ (i := 3) (N := some 13) #[true, true, true, true, false, false, false, false, false, false] rfl rfl (one_of HT_.out (by kernel_rfl)) (by decide) (fun K hK => ?_)
    refine goes_ Try.func17 (by kernel_rfl) rfl #[.agg #[.int .i64 a1_0, .int .i64 a1_1, .int .i64 a1_2, .int .i64 a1_3]] (by rfl) rfl rfl (by (try simp only [List.map_toArray, List.map_cons, List.map_nil]); first | done | rfl | (simp only [List.length_drop, List.length_take]; rfl)) ?_
    with_reducible refine (laws_toStock.calls a1_0 a1_1 a1_2 a1_3 t105 t106 t107 t108 _ A4.out).mono ?_
    rintro e w15 ⟨rfl, hb⟩
    refine ⟨_, rfl, ?_⟩
    have n0_ := Aside0.mk (blk_below (g := gb101) (o := .cells #[.int .i64 a0_0, .int .i64 a0_1] 23 (0, 0)) (by (with_reducible repeat (first | refine blk_drewN ?_ _ | refine blk_drew ?_ | refine blk_alloc ?_ _)); exact BK101.out) hb)
    have n1_ := Aside0.mk (blk_below (g := gb102) (o := .cells #[.int .i64 a1_0, .int .i64 a1_1, .int .i64 a1_2, .int .i64 a1_3] 29 (0, 0)) (by (with_reducible repeat (first | refine blk_drewN ?_ _ | refine blk_drew ?_ | refine blk_alloc ?_ _)); exact BK102.out) hb)
    have n2_ := Aside0.mk (below_step (by repeat (first | (with_reducible first | exact HB.out | apply below_alloc | apply pw_below_drewN | apply below_drew1 | refine below_set ?_ GE101.out | refine below_set ?_ GE102.out) | exact HB.out)) hb)
    clear BK101
    clear BK102
    clear HB
    have BK101 := n0_
    have BK102 := n1_
    have HB := n2_
    clear n0_ n1_ n2_
    (try clear hb)
    (try clear hb2)
    (try clear hk)
    (try clear hi)
    refine hK.out _ _ ⟨(blk_cell BK101.out 0).trans rfl, (blk_cell BK101.out 1).trans rfl, (blk_cell BK102.out 0).trans rfl, (blk_cell BK102.out 1).trans rfl, (blk_cell BK102.out 2).trans rfl, (blk_cell BK102.out 3).trans rfl⟩ (fun hHeld => ?_)
    clear hK K
    refine norm_ (a' := ?_) ?_ ?_
    rotate_left
    · show Act.put _ (some 13) _ = _
      simp only [Act.put, List.setIfInBounds_toArray, List.set_cons_zero, List.set_cons_succ, i64_w, i32_w]
      rfl
    refine one_ (i := 4) (N := some 14) #[true, true, true, true, true, false, false, false, false, false] rfl rfl (one_of HT_.out (by kernel_rfl)) (by decide) (fun K hK => ?_)
    refine goes_ Try.func26 (by kernel_rfl) rfl #[.agg #[.int .i64 t103, .int .i64 t104], .agg #[.int .i64 t105, .int .i64 t106, .int .i64 t107, .int .i64 t108]] (by rfl) rfl rfl (by (try simp only [List.map_toArray, List.map_cons, List.map_nil]); first | done | rfl | (simp only [List.length_drop, List.length_take]; rfl)) ?_
    with_reducible refine (spec_RowCount.calls t103 t104 t105 t106 t107 t108 t109 t110 _ A5.out).mono ?_
    rintro e w16 ⟨rfl, hb⟩
    refine ⟨_, rfl, ?_⟩
    have n0_ := Aside0.mk (blk_below (g := gb101) (o := .cells #[.int .i64 a0_0, .int .i64 a0_1] 23 (0, 0)) (by (with_reducible repeat (first | refine blk_drewN ?_ _ | refine blk_drew ?_ | refine blk_alloc ?_ _)); exact BK101.out) hb)
    have n1_ := Aside0.mk (blk_below (g := gb102) (o := .cells #[.int .i64 a1_0, .int .i64 a1_1, .int .i64 a1_2, .int .i64 a1_3] 29 (0, 0)) (by (with_reducible repeat (first | refine blk_drewN ?_ _ | refine blk_drew ?_ | refine blk_alloc ?_ _)); exact BK102.out) hb)
    have n2_ := Aside0.mk (below_step (by repeat (first | (with_reducible first | exact HB.out | apply below_alloc | apply pw_below_drewN | apply below_drew1 | refine below_set ?_ GE101.out | refine below_set ?_ GE102.out) | exact HB.out)) hb)
    clear BK101
    clear BK102
    clear HB
    have BK101 := n0_
    have BK102 := n1_
    have HB := n2_
    clear n0_ n1_ n2_
    (try clear hb)
    (try clear hb2)
    (try clear hk)
    (try clear hi)
    refine hK.out _ _ ⟨(blk_cell BK101.out 0).trans rfl, (blk_cell BK101.out 1).trans rfl, (blk_cell BK102.out 0).trans rfl, (blk_cell BK102.out 1).trans rfl, (blk_cell BK102.out 2).trans rfl, (blk_cell BK102.out 3).trans rfl⟩ (fun hHeld => ?_)
    clear hK K
    refine norm_ (a' := ?_) ?_ ?_
    rotate_left
    · show Act.put _ (some 14) _ = _
      simp only [Act.put, List.setIfInBounds_toArray, List.set_cons_zero, List.set_cons_succ, i64_w, i32_w]
      rfl
    refine pure_ (i := 5) (N := some 9) (v := ?_) (a' := ?_) #[true, true, true, true, true, true, false, false, false, false] rfl rfl (any_of HT_.out (by kernel_rfl)) (fun _ _ _ h => h) (Or.inl ⟨by rfl, ?_⟩) ?_ ?_
    rotate_left
    · intro w'
      go_simp
      with_reducible rfl
    rotate_left
    · simp only [Act.put, List.setIfInBounds_toArray, List.set_cons_zero, List.set_cons_succ, i64_w, i32_w]
      rfl
    refine pure_ (i := 6) (N := some 15) (v := ?_) (a' := ?_) #[true, true, true, true, true, true, true, false, false, false] rfl rfl (any_of HT_.out (by kernel_rfl)) (fun _ _ _ h => h) (Or.inl ⟨by rfl, ?_⟩) ?_ ?_
    rotate_left
    · intro w'
      go_simp
      with_reducible rfl
    rotate_left
    · simp only [Act.put, List.setIfInBounds_toArray, List.set_cons_zero, List.set_cons_succ, i64_w, i32_w]
      rfl
    refine pure_ (i := 7) (N := some 16) (v := ?_) (a' := ?_) #[true, true, true, true, true, true, true, true, false, false] rfl rfl (any_of HT_.out (by kernel_rfl)) (fun _ _ _ h => h) (Or.inl ⟨by rfl, ?_⟩) ?_ ?_
    rotate_left
    · intro w'
      go_simp
      with_reducible rfl
    rotate_left
    · simp only [Act.put, List.setIfInBounds_toArray, List.set_cons_zero, List.set_cons_succ, i64_w, i32_w]
      rfl
    refine pure_ (i := 8) (N := some 5) (v := ?_) (a' := ?_) #[true, true, true, true, true, true, true, true, true, false] rfl rfl (any_of HT_.out (by kernel_rfl)) (fun _ _ _ h => h) (Or.inl ⟨by rfl, ?_⟩) ?_ ?_
    rotate_left
    · intro w'
      go_simp
      with_reducible rfl
    rotate_left
    · simp only [Act.put, List.setIfInBounds_toArray, List.set_cons_zero, List.set_cons_succ, i64_w, i32_w]
      rfl
    refine pure_ (i := 9) (N := some 6) (v := ?_) (a' := ?_) #[true, true, true, true, true, true, true, true, true, true] rfl rfl (any_of HT_.out (by kernel_rfl)) (fun _ _ _ h => h) (Or.inl ⟨by rfl, ?_⟩) ?_ ?_
    rotate_left
    · intro w'
      go_simp
      with_reducible rfl
    rotate_left
    · simp only [Act.put, List.setIfInBounds_toArray, List.set_cons_zero, List.set_cons_succ, i64_w, i32_w]
      rfl
    refine done_ (done_of HT_.out (by kernel_rfl)) ?_
    try go_wp2
    have n0_ := Aside0.mk (blk_drew BK101.out)
    have n1_ := Aside0.mk (blk_drew BK102.out)
    have n2_ := Aside0.mk (below_drew1 HB.out)
    clear BK101
    clear BK102
    clear HB
    have BK101 := n0_
    have BK102 := n1_
    have HB := n2_
    clear n0_ n1_ n2_
    refine start_ (n := 10) (S := fun w' => w'.cell? ⟨gb101, 0, none⟩ = some (.int .i64 a0_0) ∧ w'.cell? ⟨gb101, 1, none⟩ = some (.int .i64 a0_1) ∧ w'.cell? ⟨gb102, 0, none⟩ = some (.int .i64 a1_0) ∧ w'.cell? ⟨gb102, 1, none⟩ = some (.int .i64 a1_1) ∧ w'.cell? ⟨gb102, 2, none⟩ = some (.int .i64 a1_2) ∧ w'.cell? ⟨gb102, 3, none⟩ = some (.int .i64 a1_3)) (ds := []) #[false, false, false, false, false, false, false, false, false, false] (by kernel_rfl) rfl rfl ⟨(blk_cell BK101.out 0).trans rfl, (blk_cell BK101.out 1).trans rfl, (blk_cell BK102.out 0).trans rfl, (blk_cell BK102.out 1).trans rfl, (blk_cell BK102.out 2).trans rfl, (blk_cell BK102.out 3).trans rfl⟩ (fun hHeld => ?_); refine with_tabW laws_FnExactRowCount.tab2 laws_FnExactRowCount.bits2 (fun HT_ HW_ => ?_)
    generalize w16.drew = w17 at BK101 BK102 HB hHeld ⊢
    refine take_ (i := 0) (N := some 18) (v := ?_) (a' := ?_) #[true, false, false, false, false, false, false, false, false, false] rfl rfl (take_ofW HT_.out HW_.out (by kernel_rfl)) (fun _ _ _ h => h) (Or.inl ⟨by rfl, ?_⟩) hHeld ?_ ?_
    rotate_left
    · rintro w' ⟨s0, s1, s2, s3, s4, s5⟩
      go_simp
      with_reducible rfl
    rotate_left
    · simp only [Act.put, List.setIfInBounds_toArray, List.set_cons_zero, List.set_cons_succ, i64_w, i32_w]
      rfl
    refine take_ (i := 2) (N := some 20) (v := ?_) (a' := ?_) #[true, false, true, false, false, false, false, false, false, false] rfl rfl (take_ofW HT_.out HW_.out (by kernel_rfl)) (fun _ _ _ h => h) (Or.inl ⟨by rfl, ?_⟩) hHeld ?_ ?_
    rotate_left
    · rintro w' ⟨s0, s1, s2, s3, s4, s5⟩
      go_simp
      with_reducible rfl
    rotate_left
    · simp only [Act.put, List.setIfInBounds_toArray, List.set_cons_zero, List.set_cons_succ, i64_w, i32_w]
      rfl
    refine one_ (i := 1) (N := some 19) #[true, true, true, false, false, false, false, false, false, false] rfl rfl (one_of HT_.out (by kernel_rfl)) (by decide) (fun K hK => ?_)
    refine goes_ Try.func14 (by kernel_rfl) rfl #[.agg #[.int .i64 a0_0, .int .i64 a0_1]] (by rfl) rfl rfl (by (try simp only [List.map_toArray, List.map_cons, List.map_nil]); first | done | rfl | (simp only [List.length_drop, List.length_take]; rfl)) ?_
    with_reducible refine (laws_toRoom.calls a0_0 a0_1 t111 t112 _ A6.out).mono ?_
    rintro e w18 ⟨rfl, hb⟩
    refine ⟨_, rfl, ?_⟩
    have n0_ := Aside0.mk (blk_below (g := gb101) (o := .cells #[.int .i64 a0_0, .int .i64 a0_1] 23 (0, 0)) (by (with_reducible repeat (first | refine blk_drewN ?_ _ | refine blk_drew ?_ | refine blk_alloc ?_ _)); exact BK101.out) hb)
    have n1_ := Aside0.mk (blk_below (g := gb102) (o := .cells #[.int .i64 a1_0, .int .i64 a1_1, .int .i64 a1_2, .int .i64 a1_3] 29 (0, 0)) (by (with_reducible repeat (first | refine blk_drewN ?_ _ | refine blk_drew ?_ | refine blk_alloc ?_ _)); exact BK102.out) hb)
    have n2_ := Aside0.mk (below_step (by repeat (first | (with_reducible first | exact HB.out | apply below_alloc | apply pw_below_drewN | apply below_drew1 | refine below_set ?_ GE101.out | refine below_set ?_ GE102.out) | exact HB.out)) hb)
    clear BK101
    clear BK102
    clear HB
    have BK101 := n0_
    have BK102 := n1_
    have HB := n2_
    clear n0_ n1_ n2_
    (try clear hb)
    (try clear hb2)
    (try clear hk)
    (try clear hi)
    refine hK.out _ _ ⟨(blk_cell BK101.out 0).trans rfl, (blk_cell BK101.out 1).trans rfl, (blk_cell BK102.out 0).trans rfl, (blk_cell BK102.out 1).trans rfl, (blk_cell BK102.out 2).trans rfl, (blk_cell BK102.out 3).trans rfl⟩ (fun hHeld => ?_)
    clear hK K
    refine norm_ (a' := ?_) ?_ ?_
    rotate_left
    · show Act.put _ (some 19) _ = _
      simp only [Act.put, List.setIfInBounds_toArray, List.set_cons_zero, List.set_cons_succ, i64_w, i32_w]
      rfl
    refine one_ (i := 3) (N := some 21) #[true, true, true, true, false, false, false, false, false, false] rfl rfl (one_of HT_.out (by kernel_rfl)) (by decide) (fun K hK => ?_)
    refine goes_ Try.func17 (by kernel_rfl) rfl #[.agg #[.int .i64 a1_0, .int .i64 a1_1, .int .i64 a1_2, .int .i64 a1_3]] (by rfl) rfl rfl (by (try simp only [List.map_toArray, List.map_cons, List.map_nil]); first | done | rfl | (simp only [List.length_drop, List.length_take]; rfl)) ?_
    with_reducible refine (laws_toStock.calls a1_0 a1_1 a1_2 a1_3 t113 t114 t115 t116 _ A7.out).mono ?_
    rintro e w19 ⟨rfl, hb⟩
    refine ⟨_, rfl, ?_⟩
    have n0_ := Aside0.mk (blk_below (g := gb101) (o := .cells #[.int .i64 a0_0, .int .i64 a0_1] 23 (0, 0)) (by (with_reducible repeat (first | refine blk_drewN ?_ _ | refine blk_drew ?_ | refine blk_alloc ?_ _)); exact BK101.out) hb)
    have n1_ := Aside0.mk (blk_below (g := gb102) (o := .cells #[.int .i64 a1_0, .int .i64 a1_1, .int .i64 a1_2, .int .i64 a1_3] 29 (0, 0)) (by (with_reducible repeat (first | refine blk_drewN ?_ _ | refine blk_drew ?_ | refine blk_alloc ?_ _)); exact BK102.out) hb)
    have n2_ := Aside0.mk (below_step (by repeat (first | (with_reducible first | exact HB.out | apply below_alloc | apply pw_below_drewN | apply below_drew1 | refine below_set ?_ GE101.out | refine below_set ?_ GE102.out) | exact HB.out)) hb)
    clear BK101
    clear BK102
    clear HB
    have BK101 := n0_
    have BK102 := n1_
    have HB := n2_
    clear n0_ n1_ n2_
    (try clear hb)
    (try clear hb2)
    (try clear hk)
    (try clear hi)
    refine hK.out _ _ ⟨(blk_cell BK101.out 0).trans rfl, (blk_cell BK101.out 1).trans rfl, (blk_cell BK102.out 0).trans rfl, (blk_cell BK102.out 1).trans rfl, (blk_cell BK102.out 2).trans rfl, (blk_cell BK102.out 3).trans rfl⟩ (fun hHeld => ?_)
    clear hK K
    refine norm_ (a' := ?_) ?_ ?_
    rotate_left
    · show Act.put _ (some 21) _ = _
      simp only [Act.put, List.setIfInBounds_toArray, List.set_cons_zero, List.set_cons_succ, i64_w, i32_w]
      rfl
    refine one_ (i := 4) (N := some 22) #[true, true, true, true, true, false, false, false, false, false] rfl rfl (one_of HT_.out (by kernel_rfl)) (by decide) (fun K hK => ?_)
    refine goes_ Try.func27 (by kernel_rfl) rfl #[.agg #[.int .i64 t111, .int .i64 t112], .agg #[.int .i64 t113, .int .i64 t114, .int .i64 t115, .int .i64 t116]] (by rfl) rfl rfl (by (try simp only [List.map_toArray, List.map_cons, List.map_nil]); first | done | rfl | (simp only [List.length_drop, List.length_take]; rfl)) ?_
    with_reducible refine (impl_RowCount.calls t111 t112 t113 t114 t115 t116 t117 t118 _ A8.out).mono ?_
    rintro e w20 ⟨rfl, hb⟩
    refine ⟨_, rfl, ?_⟩
    have n0_ := Aside0.mk (blk_below (g := gb101) (o := .cells #[.int .i64 a0_0, .int .i64 a0_1] 23 (0, 0)) (by (with_reducible repeat (first | refine blk_drewN ?_ _ | refine blk_drew ?_ | refine blk_alloc ?_ _)); exact BK101.out) hb)
    have n1_ := Aside0.mk (blk_below (g := gb102) (o := .cells #[.int .i64 a1_0, .int .i64 a1_1, .int .i64 a1_2, .int .i64 a1_3] 29 (0, 0)) (by (with_reducible repeat (first | refine blk_drewN ?_ _ | refine blk_drew ?_ | refine blk_alloc ?_ _)); exact BK102.out) hb)
    have n2_ := Aside0.mk (below_step (by repeat (first | (with_reducible first | exact HB.out | apply below_alloc | apply pw_below_drewN | apply below_drew1 | refine below_set ?_ GE101.out | refine below_set ?_ GE102.out) | exact HB.out)) hb)
    clear BK101
    clear BK102
    clear HB
    have BK101 := n0_
    have BK102 := n1_
    have HB := n2_
    clear n0_ n1_ n2_
    (try clear hb)
    (try clear hb2)
    (try clear hk)
    (try clear hi)
    refine hK.out _ _ ⟨(blk_cell BK101.out 0).trans rfl, (blk_cell BK101.out 1).trans rfl, (blk_cell BK102.out 0).trans rfl, (blk_cell BK102.out 1).trans rfl, (blk_cell BK102.out 2).trans rfl, (blk_cell BK102.out 3).trans rfl⟩ (fun hHeld => ?_)
    clear hK K
    refine norm_ (a' := ?_) ?_ ?_
    rotate_left
    · show Act.put _ (some 22) _ = _
      simp only [Act.put, List.setIfInBounds_toArray, List.set_cons_zero, List.set_cons_succ, i64_w, i32_w]
      rfl
    refine pure_ (i := 5) (N := some 17) (v := ?_) (a' := ?_) #[true, true, true, true, true, true, false, false, false, false] rfl rfl (any_of HT_.out (by kernel_rfl)) (fun _ _ _ h => h) (Or.inl ⟨by rfl, ?_⟩) ?_ ?_
    rotate_left
    · intro w'
      go_simp
      with_reducible rfl
    rotate_left
    · simp only [Act.put, List.setIfInBounds_toArray, List.set_cons_zero, List.set_cons_succ, i64_w, i32_w]
      rfl
    refine pure_ (i := 6) (N := some 23) (v := ?_) (a' := ?_) #[true, true, true, true, true, true, true, false, false, false] rfl rfl (any_of HT_.out (by kernel_rfl)) (fun _ _ _ h => h) (Or.inl ⟨by rfl, ?_⟩) ?_ ?_
    rotate_left
    · intro w'
      go_simp
      with_reducible rfl
    rotate_left
    · simp only [Act.put, List.setIfInBounds_toArray, List.set_cons_zero, List.set_cons_succ, i64_w, i32_w]
      rfl
    refine pure_ (i := 7) (N := some 24) (v := ?_) (a' := ?_) #[true, true, true, true, true, true, true, true, false, false] rfl rfl (any_of HT_.out (by kernel_rfl)) (fun _ _ _ h => h) (Or.inl ⟨by rfl, ?_⟩) ?_ ?_
    rotate_left
    · intro w'
      go_simp
      with_reducible rfl
    rotate_left
    · simp only [Act.put, List.setIfInBounds_toArray, List.set_cons_zero, List.set_cons_succ, i64_w, i32_w]
      rfl
    refine pure_ (i := 8) (N := some 7) (v := ?_) (a' := ?_) #[true, true, true, true, true, true, true, true, true, false] rfl rfl (any_of HT_.out (by kernel_rfl)) (fun _ _ _ h => h) (Or.inl ⟨by rfl, ?_⟩) ?_ ?_
    rotate_left
    · intro w'
      go_simp
      with_reducible rfl
    rotate_left
    · simp only [Act.put, List.setIfInBounds_toArray, List.set_cons_zero, List.set_cons_succ, i64_w, i32_w]
      rfl
    refine pure_ (i := 9) (N := some 8) (v := ?_) (a' := ?_) #[true, true, true, true, true, true, true, true, true, true] rfl rfl (any_of HT_.out (by kernel_rfl)) (fun _ _ _ h => h) (Or.inl ⟨by rfl, ?_⟩) ?_ ?_
    rotate_left
    · intro w'
      go_simp
      with_reducible rfl
    rotate_left
    · simp only [Act.put, List.setIfInBounds_toArray, List.set_cons_zero, List.set_cons_succ, i64_w, i32_w]
      rfl
    refine done_ (done_of HT_.out (by kernel_rfl)) ?_
    go_upto_if 32 with (fail)
    have H := HC10.out
    clear HC10
    by_cases c21 : t118 = t110
    · rw [if_pos c21] at H
      have c21b0 : (t118 == t110) = true := beq_iff_eq.mpr c21
      have c21b1 : (t118 != t110) = false := bne_eq_false_iff_eq.mpr c21
      clear c21
      (first | rw [c21b0] | (simp only [i64_w, i32_w]; rw [c21b0]) | (simp only [c21b2, Bool.not_true, Bool.not_false]) | (simp only [c21b1, Bool.not_true, Bool.not_false]) | (simp only [c21b0, Bool.not_true, Bool.not_false]) | skip)
      obtain rfl := Option.some.inj H
      go_wp2
      go_ret
      exact ⟨by first | rfl | (simp [errW_none, errW_some] <;> rfl) | (simp [*, errW_none, errW_some] <;> rfl), by repeat (first | (with_reducible first | exact HB.out | apply below_alloc | apply pw_below_drewN | apply below_drew1 | refine below_set ?_ GE101.out | refine below_set ?_ GE102.out) | exact HB.out)⟩
    · rw [if_neg c21] at H
      have c21b0 : (t118 == t110) = false := beq_eq_false_iff_ne.mpr c21
      have c21b1 : (t118 != t110) = true := bne_iff_ne.mpr c21
      (first | rw [c21b0] | (simp only [i64_w, i32_w]; rw [c21b0]) | (simp only [c21b2, Bool.not_true, Bool.not_false]) | (simp only [c21b1, Bool.not_true, Bool.not_false]) | (simp only [c21b0, Bool.not_true, Bool.not_false]) | skip)
      obtain rfl := Option.some.inj H
      go_wp2
      go_ret
      exact ⟨by first | rfl | (simp [errW_none, errW_some] <;> rfl) | (simp [*, errW_none, errW_some] <;> rfl), by repeat (first | (with_reducible first | exact HB.out | apply below_alloc | apply pw_below_drewN | apply below_drew1 | refine below_set ?_ GE101.out | refine below_set ?_ GE102.out) | exact HB.out)⟩
  · rw [if_neg c9] at H
    have c9b0 : (t117 == t109) = false := beq_eq_false_iff_ne.mpr c9
    have c9b1 : (t117 != t109) = true := bne_iff_ne.mpr c9
    obtain rfl := Option.some.inj H
    go_enter Try.func8, Try.ntmps8
    try go_wp2_with (first | ((with_reducible refine gate_dst (N := 2) rfl ?_); refine box_event ?hg (N := 2) ?hd (cs := #[.int .i64 a0_0, .int .i64 a0_1]) (t := 23) ?hr ?_; (case hd => rfl); (case hg => rfl); (case hr => first | (go_simp; done) | (go_simp; rfl)); intro gb101 hg w22 hbox hb; have n0_ := Aside0.mk (below_step (by repeat (first | (with_reducible first | exact HB.out | apply below_alloc | apply pw_below_drewN | apply below_drew1) | exact HB.out)) hb); have n1_ := Aside0.mk (hbox); have n2_ := Aside0.mk ((by rw [hg]; exact (below_size (by repeat (first | (with_reducible first | exact HB.out | apply below_alloc | apply pw_below_drewN | apply below_drew1) | exact HB.out))) : w.heap.size ≤ gb101)); have n3_ := Aside0.mk ((by rw [hg]; exact (below_size (by repeat (first | (with_reducible first | exact HB.out | apply below_alloc | apply pw_below_drewN | apply below_drew1) | exact HB.out))) : w.heap.size ≤ gb101)); clear HB; have HB := n0_; have BK101 := n1_; have GW101 := n2_; have GE101 := n3_; clear n0_ n1_ n2_ n3_; clear hb hbox hg) | ((with_reducible refine gate_dst (N := 3) rfl ?_); refine box_event ?hg (N := 3) ?hd (cs := #[.int .i64 a1_0, .int .i64 a1_1, .int .i64 a1_2, .int .i64 a1_3]) (t := 29) ?hr ?_; (case hd => rfl); (case hg => rfl); (case hr => first | (go_simp; done) | (go_simp; rfl)); intro gb102 hg w23 hbox hb; have n0_ := Aside0.mk (blk_below (g := gb101) (o := .cells #[.int .i64 a0_0, .int .i64 a0_1] 23 (0, 0)) (by (with_reducible repeat (first | refine blk_drewN ?_ _ | refine blk_drew ?_ | refine blk_alloc ?_ _)); exact BK101.out) hb); have n1_ := Aside0.mk (below_step (by repeat (first | (with_reducible first | exact HB.out | apply below_alloc | apply pw_below_drewN | apply below_drew1 | refine below_set ?_ GE101.out) | exact HB.out)) hb); have n2_ := Aside0.mk (hbox); have n3_ := Aside0.mk ((by rw [hg]; exact (below_size (by repeat (first | (with_reducible first | exact HB.out | apply below_alloc | apply pw_below_drewN | apply below_drew1 | refine below_set ?_ GE101.out) | exact HB.out))) : w.heap.size ≤ gb102)); have n4_ := Aside0.mk ((by rw [hg]; exact (below_size (by repeat (first | (with_reducible first | exact HB.out | apply below_alloc | apply pw_below_drewN | apply below_drew1 | refine below_set ?_ GE101.out) | exact HB.out))) : w.heap.size ≤ gb102)); have n5_ := Aside0.mk ((by rw [hg]; exact Nat.ne_of_lt (blk_lt (g := gb101) (o := .cells #[.int .i64 a0_0, .int .i64 a0_1] 23 (0, 0)) (by (with_reducible repeat (first | refine blk_drewN ?_ _ | refine blk_drew ?_ | refine blk_alloc ?_ _)); exact BK101.out)) : gb101 ≠ gb102)); have n6_ := Aside0.mk ((by rw [hg]; exact Nat.ne_of_gt (blk_lt (g := gb101) (o := .cells #[.int .i64 a0_0, .int .i64 a0_1] 23 (0, 0)) (by (with_reducible repeat (first | refine blk_drewN ?_ _ | refine blk_drew ?_ | refine blk_alloc ?_ _)); exact BK101.out)) : gb102 ≠ gb101)); clear BK101; clear HB; have BK101 := n0_; have HB := n1_; have BK102 := n2_; have GW102 := n3_; have GE102 := n4_; have NB101_102 := n5_; have NB102_101 := n6_; clear n0_ n1_ n2_ n3_ n4_ n5_ n6_; clear hb hbox hg))
    have n0_ := Aside0.mk (blk_drew BK101.out)
    have n1_ := Aside0.mk (blk_drew BK102.out)
    have n2_ := Aside0.mk (below_drew1 HB.out)
    clear BK101
    clear BK102
    clear HB
    have BK101 := n0_
    have BK102 := n1_
    have HB := n2_
    clear n0_ n1_ n2_
    refine start_ (n := 10) (S := fun w' => w'.cell? ⟨gb101, 0, none⟩ = some (.int .i64 a0_0) ∧ w'.cell? ⟨gb101, 1, none⟩ = some (.int .i64 a0_1) ∧ w'.cell? ⟨gb102, 0, none⟩ = some (.int .i64 a1_0) ∧ w'.cell? ⟨gb102, 1, none⟩ = some (.int .i64 a1_1) ∧ w'.cell? ⟨gb102, 2, none⟩ = some (.int .i64 a1_2) ∧ w'.cell? ⟨gb102, 3, none⟩ = some (.int .i64 a1_3)) (ds := []) #[false, false, false, false, false, false, false, false, false, false] (by kernel_rfl) rfl rfl ⟨(blk_cell BK101.out 0).trans rfl, (blk_cell BK101.out 1).trans rfl, (blk_cell BK102.out 0).trans rfl, (blk_cell BK102.out 1).trans rfl, (blk_cell BK102.out 2).trans rfl, (blk_cell BK102.out 3).trans rfl⟩ (fun hHeld => ?_); refine with_tabW laws_FnExactRowCount.tab1 laws_FnExactRowCount.bits1 (fun HT_ HW_ => ?_)
    generalize w23.drew = w24 at BK101 BK102 HB hHeld ⊢
    refine take_ (i := 0) (N := some 10) (v := ?_) (a' := ?_) #[true, false, false, false, false, false, false, false, false, false] rfl rfl (take_ofW HT_.out HW_.out (by kernel_rfl)) (fun _ _ _ h => h) (Or.inl ⟨by rfl, ?_⟩) hHeld ?_ ?_
    rotate_left
    · rintro w' ⟨s0, s1, s2, s3, s4, s5⟩
      go_simp
      with_reducible rfl
    rotate_left
    · simp only [Act.put, List.setIfInBounds_toArray, List.set_cons_zero, List.set_cons_succ, i64_w, i32_w]
      rfl
    refine take_ (i := 2) (N := some 12) (v := ?_) (a' := ?_) #[true, false, true, false, false, false, false, false, false, false] rfl rfl (take_ofW HT_.out HW_.out (by kernel_rfl)) (fun _ _ _ h => h) (Or.inl ⟨by rfl, ?_⟩) hHeld ?_ ?_
    rotate_left
    · rintro w' ⟨s0, s1, s2, s3, s4, s5⟩
      go_simp
      with_reducible rfl
    rotate_left
    · simp only [Act.put, List.setIfInBounds_toArray, List.set_cons_zero, List.set_cons_succ, i64_w, i32_w]
      rfl
    refine one_ (i := 1) (N := some 11) #[true, true, true, false, false, false, false, false, false, false] rfl rfl (one_of HT_.out (by kernel_rfl)) (by decide) (fun K hK => ?_)
    refine goes_ Try.func14 (by kernel_rfl) rfl #[.agg #[.int .i64 a0_0, .int .i64 a0_1]] (by rfl) rfl rfl (by (try simp only [List.map_toArray, List.map_cons, List.map_nil]); first | done | rfl | (simp only [List.length_drop, List.length_take]; rfl)) ?_
    with_reducible refine (laws_toRoom.calls a0_0 a0_1 t103 t104 _ A3.out).mono ?_
    rintro e w25 ⟨rfl, hb⟩
    refine ⟨_, rfl, ?_⟩
    have n0_ := Aside0.mk (blk_below (g := gb101) (o := .cells #[.int .i64 a0_0, .int .i64 a0_1] 23 (0, 0)) (by (with_reducible repeat (first | refine blk_drewN ?_ _ | refine blk_drew ?_ | refine blk_alloc ?_ _)); exact BK101.out) hb)
    have n1_ := Aside0.mk (blk_below (g := gb102) (o := .cells #[.int .i64 a1_0, .int .i64 a1_1, .int .i64 a1_2, .int .i64 a1_3] 29 (0, 0)) (by (with_reducible repeat (first | refine blk_drewN ?_ _ | refine blk_drew ?_ | refine blk_alloc ?_ _)); exact BK102.out) hb)
    have n2_ := Aside0.mk (below_step (by repeat (first | (with_reducible first | exact HB.out | apply below_alloc | apply pw_below_drewN | apply below_drew1 | refine below_set ?_ GE101.out | refine below_set ?_ GE102.out) | exact HB.out)) hb)
    clear BK101
    clear BK102
    clear HB
    have BK101 := n0_
    have BK102 := n1_
    have HB := n2_
    clear n0_ n1_ n2_
    (try clear hb)
    (try clear hb2)
    (try clear hk)
    (try clear hi)
    refine hK.out _ _ ⟨(blk_cell BK101.out 0).trans rfl, (blk_cell BK101.out 1).trans rfl, (blk_cell BK102.out 0).trans rfl, (blk_cell BK102.out 1).trans rfl, (blk_cell BK102.out 2).trans rfl, (blk_cell BK102.out 3).trans rfl⟩ (fun hHeld => ?_)
    clear hK K
    refine norm_ (a' := ?_) ?_ ?_
    rotate_left
    · show Act.put _ (some 11) _ = _
      simp only [Act.put, List.setIfInBounds_toArray, List.set_cons_zero, List.set_cons_succ, i64_w, i32_w]
      rfl
    refine one_ (i := 3) (N := some 13) #[true, true, true, true, false, false, false, false, false, false] rfl rfl (one_of HT_.out (by kernel_rfl)) (by decide) (fun K hK => ?_)
    refine goes_ Try.func17 (by kernel_rfl) rfl #[.agg #[.int .i64 a1_0, .int .i64 a1_1, .int .i64 a1_2, .int .i64 a1_3]] (by rfl) rfl rfl (by (try simp only [List.map_toArray, List.map_cons, List.map_nil]); first | done | rfl | (simp only [List.length_drop, List.length_take]; rfl)) ?_
    with_reducible refine (laws_toStock.calls a1_0 a1_1 a1_2 a1_3 t105 t106 t107 t108 _ A4.out).mono ?_
    rintro e w26 ⟨rfl, hb⟩
    refine ⟨_, rfl, ?_⟩
    have n0_ := Aside0.mk (blk_below (g := gb101) (o := .cells #[.int .i64 a0_0, .int .i64 a0_1] 23 (0, 0)) (by (with_reducible repeat (first | refine blk_drewN ?_ _ | refine blk_drew ?_ | refine blk_alloc ?_ _)); exact BK101.out) hb)
    have n1_ := Aside0.mk (blk_below (g := gb102) (o := .cells #[.int .i64 a1_0, .int .i64 a1_1, .int .i64 a1_2, .int .i64 a1_3] 29 (0, 0)) (by (with_reducible repeat (first | refine blk_drewN ?_ _ | refine blk_drew ?_ | refine blk_alloc ?_ _)); exact BK102.out) hb)
    have n2_ := Aside0.mk (below_step (by repeat (first | (with_reducible first | exact HB.out | apply below_alloc | apply pw_below_drewN | apply below_drew1 | refine below_set ?_ GE101.out | refine below_set ?_ GE102.out) | exact HB.out)) hb)
    clear BK101
    clear BK102
    clear HB
    have BK101 := n0_
    have BK102 := n1_
    have HB := n2_
    clear n0_ n1_ n2_
    (try clear hb)
    (try clear hb2)
    (try clear hk)
    (try clear hi)
    refine hK.out _ _ ⟨(blk_cell BK101.out 0).trans rfl, (blk_cell BK101.out 1).trans rfl, (blk_cell BK102.out 0).trans rfl, (blk_cell BK102.out 1).trans rfl, (blk_cell BK102.out 2).trans rfl, (blk_cell BK102.out 3).trans rfl⟩ (fun hHeld => ?_)
    clear hK K
    refine norm_ (a' := ?_) ?_ ?_
    rotate_left
    · show Act.put _ (some 13) _ = _
      simp only [Act.put, List.setIfInBounds_toArray, List.set_cons_zero, List.set_cons_succ, i64_w, i32_w]
      rfl
    refine one_ (i := 4) (N := some 14) #[true, true, true, true, true, false, false, false, false, false] rfl rfl (one_of HT_.out (by kernel_rfl)) (by decide) (fun K hK => ?_)
    refine goes_ Try.func26 (by kernel_rfl) rfl #[.agg #[.int .i64 t103, .int .i64 t104], .agg #[.int .i64 t105, .int .i64 t106, .int .i64 t107, .int .i64 t108]] (by rfl) rfl rfl (by (try simp only [List.map_toArray, List.map_cons, List.map_nil]); first | done | rfl | (simp only [List.length_drop, List.length_take]; rfl)) ?_
    with_reducible refine (spec_RowCount.calls t103 t104 t105 t106 t107 t108 t109 t110 _ A5.out).mono ?_
    rintro e w27 ⟨rfl, hb⟩
    refine ⟨_, rfl, ?_⟩
    have n0_ := Aside0.mk (blk_below (g := gb101) (o := .cells #[.int .i64 a0_0, .int .i64 a0_1] 23 (0, 0)) (by (with_reducible repeat (first | refine blk_drewN ?_ _ | refine blk_drew ?_ | refine blk_alloc ?_ _)); exact BK101.out) hb)
    have n1_ := Aside0.mk (blk_below (g := gb102) (o := .cells #[.int .i64 a1_0, .int .i64 a1_1, .int .i64 a1_2, .int .i64 a1_3] 29 (0, 0)) (by (with_reducible repeat (first | refine blk_drewN ?_ _ | refine blk_drew ?_ | refine blk_alloc ?_ _)); exact BK102.out) hb)
    have n2_ := Aside0.mk (below_step (by repeat (first | (with_reducible first | exact HB.out | apply below_alloc | apply pw_below_drewN | apply below_drew1 | refine below_set ?_ GE101.out | refine below_set ?_ GE102.out) | exact HB.out)) hb)
    clear BK101
    clear BK102
    clear HB
    have BK101 := n0_
    have BK102 := n1_
    have HB := n2_
    clear n0_ n1_ n2_
    (try clear hb)
    (try clear hb2)
    (try clear hk)
    (try clear hi)
    refine hK.out _ _ ⟨(blk_cell BK101.out 0).trans rfl, (blk_cell BK101.out 1).trans rfl, (blk_cell BK102.out 0).trans rfl, (blk_cell BK102.out 1).trans rfl, (blk_cell BK102.out 2).trans rfl, (blk_cell BK102.out 3).trans rfl⟩ (fun hHeld => ?_)
    clear hK K
    refine norm_ (a' := ?_) ?_ ?_
    rotate_left
    · show Act.put _ (some 14) _ = _
      simp only [Act.put, List.setIfInBounds_toArray, List.set_cons_zero, List.set_cons_succ, i64_w, i32_w]
      rfl
    refine pure_ (i := 5) (N := some 9) (v := ?_) (a' := ?_) #[true, true, true, true, true, true, false, false, false, false] rfl rfl (any_of HT_.out (by kernel_rfl)) (fun _ _ _ h => h) (Or.inl ⟨by rfl, ?_⟩) ?_ ?_
    rotate_left
    · intro w'
      go_simp
      with_reducible rfl
    rotate_left
    · simp only [Act.put, List.setIfInBounds_toArray, List.set_cons_zero, List.set_cons_succ, i64_w, i32_w]
      rfl
    refine pure_ (i := 6) (N := some 15) (v := ?_) (a' := ?_) #[true, true, true, true, true, true, true, false, false, false] rfl rfl (any_of HT_.out (by kernel_rfl)) (fun _ _ _ h => h) (Or.inl ⟨by rfl, ?_⟩) ?_ ?_
    rotate_left
    · intro w'
      go_simp
      with_reducible rfl
    rotate_left
    · simp only [Act.put, List.setIfInBounds_toArray, List.set_cons_zero, List.set_cons_succ, i64_w, i32_w]
      rfl
    refine pure_ (i := 7) (N := some 16) (v := ?_) (a' := ?_) #[true, true, true, true, true, true, true, true, false, false] rfl rfl (any_of HT_.out (by kernel_rfl)) (fun _ _ _ h => h) (Or.inl ⟨by rfl, ?_⟩) ?_ ?_
    rotate_left
    · intro w'
      go_simp
      with_reducible rfl
    rotate_left
    · simp only [Act.put, List.setIfInBounds_toArray, List.set_cons_zero, List.set_cons_succ, i64_w, i32_w]
      rfl
    refine pure_ (i := 8) (N := some 5) (v := ?_) (a' := ?_) #[true, true, true, true, true, true, true, true, true, false] rfl rfl (any_of HT_.out (by kernel_rfl)) (fun _ _ _ h => h) (Or.inl ⟨by rfl, ?_⟩) ?_ ?_
    rotate_left
    · intro w'
      go_simp
      with_reducible rfl
    rotate_left
    · simp only [Act.put, List.setIfInBounds_toArray, List.set_cons_zero, List.set_cons_succ, i64_w, i32_w]
      rfl
    refine pure_ (i := 9) (N := some 6) (v := ?_) (a' := ?_) #[true, true, true, true, true, true, true, true, true, true] rfl rfl (any_of HT_.out (by kernel_rfl)) (fun _ _ _ h => h) (Or.inl ⟨by rfl, ?_⟩) ?_ ?_
    rotate_left
    · intro w'
      go_simp
      with_reducible rfl
    rotate_left
    · simp only [Act.put, List.setIfInBounds_toArray, List.set_cons_zero, List.set_cons_succ, i64_w, i32_w]
      rfl
    refine done_ (done_of HT_.out (by kernel_rfl)) ?_
    try go_wp2
    have n0_ := Aside0.mk (blk_drew BK101.out)
    have n1_ := Aside0.mk (blk_drew BK102.out)
    have n2_ := Aside0.mk (below_drew1 HB.out)
    clear BK101
    clear BK102
    clear HB
    have BK101 := n0_
    have BK102 := n1_
    have HB := n2_
    clear n0_ n1_ n2_
    refine start_ (n := 10) (S := fun w' => w'.cell? ⟨gb101, 0, none⟩ = some (.int .i64 a0_0) ∧ w'.cell? ⟨gb101, 1, none⟩ = some (.int .i64 a0_1) ∧ w'.cell? ⟨gb102, 0, none⟩ = some (.int .i64 a1_0) ∧ w'.cell? ⟨gb102, 1, none⟩ = some (.int .i64 a1_1) ∧ w'.cell? ⟨gb102, 2, none⟩ = some (.int .i64 a1_2) ∧ w'.cell? ⟨gb102, 3, none⟩ = some (.int .i64 a1_3)) (ds := []) #[false, false, false, false, false, false, false, false, false, false] (by kernel_rfl) rfl rfl ⟨(blk_cell BK101.out 0).trans rfl, (blk_cell BK101.out 1).trans rfl, (blk_cell BK102.out 0).trans rfl, (blk_cell BK102.out 1).trans rfl, (blk_cell BK102.out 2).trans rfl, (blk_cell BK102.out 3).trans rfl⟩ (fun hHeld => ?_); refine with_tabW laws_FnExactRowCount.tab2 laws_FnExactRowCount.bits2 (fun HT_ HW_ => ?_)
    generalize w27.drew = w28 at BK101 BK102 HB hHeld ⊢
    refine take_ (i := 0) (N := some 18) (v := ?_) (a' := ?_) #[true, false, false, false, false, false, false, false, false, false] rfl rfl (take_ofW HT_.out HW_.out (by kernel_rfl)) (fun _ _ _ h => h) (Or.inl ⟨by rfl, ?_⟩) hHeld ?_ ?_
    rotate_left
    · rintro w' ⟨s0, s1, s2, s3, s4, s5⟩
      go_simp
      with_reducible rfl
    rotate_left
    · simp only [Act.put, List.setIfInBounds_toArray, List.set_cons_zero, List.set_cons_succ, i64_w, i32_w]
      rfl
    refine take_ (i := 2) (N := some 20) (v := ?_) (a' := ?_) #[true, false, true, false, false, false, false, false, false, false] rfl rfl (take_ofW HT_.out HW_.out (by kernel_rfl)) (fun _ _ _ h => h) (Or.inl ⟨by rfl, ?_⟩) hHeld ?_ ?_
    rotate_left
    · rintro w' ⟨s0, s1, s2, s3, s4, s5⟩
      go_simp
      with_reducible rfl
    rotate_left
    · simp only [Act.put, List.setIfInBounds_toArray, List.set_cons_zero, List.set_cons_succ, i64_w, i32_w]
      rfl
    refine one_ (i := 1) (N := some 19) #[true, true, true, false, false, false, false, false, false, false] rfl rfl (one_of HT_.out (by kernel_rfl)) (by decide) (fun K hK => ?_)
    refine goes_ Try.func14 (by kernel_rfl) rfl #[.agg #[.int .i64 a0_0, .int .i64 a0_1]] (by rfl) rfl rfl (by (try simp only [List.map_toArray, List.map_cons, List.map_nil]); first | done | rfl | (simp only [List.length_drop, List.length_take]; rfl)) ?_
    with_reducible refine (laws_toRoom.calls a0_0 a0_1 t111 t112 _ A6.out).mono ?_
    rintro e w29 ⟨rfl, hb⟩
    refine ⟨_, rfl, ?_⟩
    have n0_ := Aside0.mk (blk_below (g := gb101) (o := .cells #[.int .i64 a0_0, .int .i64 a0_1] 23 (0, 0)) (by (with_reducible repeat (first | refine blk_drewN ?_ _ | refine blk_drew ?_ | refine blk_alloc ?_ _)); exact BK101.out) hb)
    have n1_ := Aside0.mk (blk_below (g := gb102) (o := .cells #[.int .i64 a1_0, .int .i64 a1_1, .int .i64 a1_2, .int .i64 a1_3] 29 (0, 0)) (by (with_reducible repeat (first | refine blk_drewN ?_ _ | refine blk_drew ?_ | refine blk_alloc ?_ _)); exact BK102.out) hb)
    have n2_ := Aside0.mk (below_step (by repeat (first | (with_reducible first | exact HB.out | apply below_alloc | apply pw_below_drewN | apply below_drew1 | refine below_set ?_ GE101.out | refine below_set ?_ GE102.out) | exact HB.out)) hb)
    clear BK101
    clear BK102
    clear HB
    have BK101 := n0_
    have BK102 := n1_
    have HB := n2_
    clear n0_ n1_ n2_
    (try clear hb)
    (try clear hb2)
    (try clear hk)
    (try clear hi)
    refine hK.out _ _ ⟨(blk_cell BK101.out 0).trans rfl, (blk_cell BK101.out 1).trans rfl, (blk_cell BK102.out 0).trans rfl, (blk_cell BK102.out 1).trans rfl, (blk_cell BK102.out 2).trans rfl, (blk_cell BK102.out 3).trans rfl⟩ (fun hHeld => ?_)
    clear hK K
    refine norm_ (a' := ?_) ?_ ?_
    rotate_left
    · show Act.put _ (some 19) _ = _
      simp only [Act.put, List.setIfInBounds_toArray, List.set_cons_zero, List.set_cons_succ, i64_w, i32_w]
      rfl
    refine one_ (i := 3) (N := some 21) #[true, true, true, true, false, false, false, false, false, false] rfl rfl (one_of HT_.out (by kernel_rfl)) (by decide) (fun K hK => ?_)
    refine goes_ Try.func17 (by kernel_rfl) rfl #[.agg #[.int .i64 a1_0, .int .i64 a1_1, .int .i64 a1_2, .int .i64 a1_3]] (by rfl) rfl rfl (by (try simp only [List.map_toArray, List.map_cons, List.map_nil]); first | done | rfl | (simp only [List.length_drop, List.length_take]; rfl)) ?_
    with_reducible refine (laws_toStock.calls a1_0 a1_1 a1_2 a1_3 t113 t114 t115 t116 _ A7.out).mono ?_
    rintro e w30 ⟨rfl, hb⟩
    refine ⟨_, rfl, ?_⟩
    have n0_ := Aside0.mk (blk_below (g := gb101) (o := .cells #[.int .i64 a0_0, .int .i64 a0_1] 23 (0, 0)) (by (with_reducible repeat (first | refine blk_drewN ?_ _ | refine blk_drew ?_ | refine blk_alloc ?_ _)); exact BK101.out) hb)
    have n1_ := Aside0.mk (blk_below (g := gb102) (o := .cells #[.int .i64 a1_0, .int .i64 a1_1, .int .i64 a1_2, .int .i64 a1_3] 29 (0, 0)) (by (with_reducible repeat (first | refine blk_drewN ?_ _ | refine blk_drew ?_ | refine blk_alloc ?_ _)); exact BK102.out) hb)
    have n2_ := Aside0.mk (below_step (by repeat (first | (with_reducible first | exact HB.out | apply below_alloc | apply pw_below_drewN | apply below_drew1 | refine below_set ?_ GE101.out | refine below_set ?_ GE102.out) | exact HB.out)) hb)
    clear BK101
    clear BK102
    clear HB
    have BK101 := n0_
    have BK102 := n1_
    have HB := n2_
    clear n0_ n1_ n2_
    (try clear hb)
    (try clear hb2)
    (try clear hk)
    (try clear hi)
    refine hK.out _ _ ⟨(blk_cell BK101.out 0).trans rfl, (blk_cell BK101.out 1).trans rfl, (blk_cell BK102.out 0).trans rfl, (blk_cell BK102.out 1).trans rfl, (blk_cell BK102.out 2).trans rfl, (blk_cell BK102.out 3).trans rfl⟩ (fun hHeld => ?_)
    clear hK K
    refine norm_ (a' := ?_) ?_ ?_
    rotate_left
    · show Act.put _ (some 21) _ = _
      simp only [Act.put, List.setIfInBounds_toArray, List.set_cons_zero, List.set_cons_succ, i64_w, i32_w]
      rfl
    refine one_ (i := 4) (N := some 22) #[true, true, true, true, true, false, false, false, false, false] rfl rfl (one_of HT_.out (by kernel_rfl)) (by decide) (fun K hK => ?_)
    refine goes_ Try.func27 (by kernel_rfl) rfl #[.agg #[.int .i64 t111, .int .i64 t112], .agg #[.int .i64 t113, .int .i64 t114, .int .i64 t115, .int .i64 t116]] (by rfl) rfl rfl (by (try simp only [List.map_toArray, List.map_cons, List.map_nil]); first | done | rfl | (simp only [List.length_drop, List.length_take]; rfl)) ?_
    with_reducible refine (impl_RowCount.calls t111 t112 t113 t114 t115 t116 t117 t118 _ A8.out).mono ?_
    rintro e w31 ⟨rfl, hb⟩
    refine ⟨_, rfl, ?_⟩
    have n0_ := Aside0.mk (blk_below (g := gb101) (o := .cells #[.int .i64 a0_0, .int .i64 a0_1] 23 (0, 0)) (by (with_reducible repeat (first | refine blk_drewN ?_ _ | refine blk_drew ?_ | refine blk_alloc ?_ _)); exact BK101.out) hb)
    have n1_ := Aside0.mk (blk_below (g := gb102) (o := .cells #[.int .i64 a1_0, .int .i64 a1_1, .int .i64 a1_2, .int .i64 a1_3] 29 (0, 0)) (by (with_reducible repeat (first | refine blk_drewN ?_ _ | refine blk_drew ?_ | refine blk_alloc ?_ _)); exact BK102.out) hb)
    have n2_ := Aside0.mk (below_step (by repeat (first | (with_reducible first | exact HB.out | apply below_alloc | apply pw_below_drewN | apply below_drew1 | refine below_set ?_ GE101.out | refine below_set ?_ GE102.out) | exact HB.out)) hb)
    clear BK101
    clear BK102
    clear HB
    have BK101 := n0_
    have BK102 := n1_
    have HB := n2_
    clear n0_ n1_ n2_
    (try clear hb)
    (try clear hb2)
    (try clear hk)
    (try clear hi)
    refine hK.out _ _ ⟨(blk_cell BK101.out 0).trans rfl, (blk_cell BK101.out 1).trans rfl, (blk_cell BK102.out 0).trans rfl, (blk_cell BK102.out 1).trans rfl, (blk_cell BK102.out 2).trans rfl, (blk_cell BK102.out 3).trans rfl⟩ (fun hHeld => ?_)
    clear hK K
    refine norm_ (a' := ?_) ?_ ?_
    rotate_left
    · show Act.put _ (some 22) _ = _
      simp only [Act.put, List.setIfInBounds_toArray, List.set_cons_zero, List.set_cons_succ, i64_w, i32_w]
      rfl
    refine pure_ (i := 5) (N := some 17) (v := ?_) (a' := ?_) #[true, true, true, true, true, true, false, false, false, false] rfl rfl (any_of HT_.out (by kernel_rfl)) (fun _ _ _ h => h) (Or.inl ⟨by rfl, ?_⟩) ?_ ?_
    rotate_left
    · intro w'
      go_simp
      with_reducible rfl
    rotate_left
    · simp only [Act.put, List.setIfInBounds_toArray, List.set_cons_zero, List.set_cons_succ, i64_w, i32_w]
      rfl
    refine pure_ (i := 6) (N := some 23) (v := ?_) (a' := ?_) #[true, true, true, true, true, true, true, false, false, false] rfl rfl (any_of HT_.out (by kernel_rfl)) (fun _ _ _ h => h) (Or.inl ⟨by rfl, ?_⟩) ?_ ?_
    rotate_left
    · intro w'
      go_simp
      with_reducible rfl
    rotate_left
    · simp only [Act.put, List.setIfInBounds_toArray, List.set_cons_zero, List.set_cons_succ, i64_w, i32_w]
      rfl
    refine pure_ (i := 7) (N := some 24) (v := ?_) (a' := ?_) #[true, true, true, true, true, true, true, true, false, false] rfl rfl (any_of HT_.out (by kernel_rfl)) (fun _ _ _ h => h) (Or.inl ⟨by rfl, ?_⟩) ?_ ?_
    rotate_left
    · intro w'
      go_simp
      with_reducible rfl
    rotate_left
    · simp only [Act.put, List.setIfInBounds_toArray, List.set_cons_zero, List.set_cons_succ, i64_w, i32_w]
      rfl
    refine pure_ (i := 8) (N := some 7) (v := ?_) (a' := ?_) #[true, true, true, true, true, true, true, true, true, false] rfl rfl (any_of HT_.out (by kernel_rfl)) (fun _ _ _ h => h) (Or.inl ⟨by rfl, ?_⟩) ?_ ?_
    rotate_left
    · intro w'
      go_simp
      with_reducible rfl
    rotate_left
    · simp only [Act.put, List.setIfInBounds_toArray, List.set_cons_zero, List.set_cons_succ, i64_w, i32_w]
      rfl
    refine pure_ (i := 9) (N := some 8) (v := ?_) (a' := ?_) #[true, true, true, true, true, true, true, true, true, true] rfl rfl (any_of HT_.out (by kernel_rfl)) (fun _ _ _ h => h) (Or.inl ⟨by rfl, ?_⟩) ?_ ?_
    rotate_left
    · intro w'
      go_simp
      with_reducible rfl
    rotate_left
    · simp only [Act.put, List.setIfInBounds_toArray, List.set_cons_zero, List.set_cons_succ, i64_w, i32_w]
      rfl
    refine done_ (done_of HT_.out (by kernel_rfl)) ?_
    try go_wp2
    go_ret
    exact ⟨by first | rfl | (simp [errW_none, errW_some] <;> rfl) | (simp [*, errW_none, errW_some] <;> rfl), by repeat (first | (with_reducible first | exact HB.out | apply below_alloc | apply pw_below_drewN | apply below_drew1 | refine below_set ?_ GE101.out | refine below_set ?_ GE102.out) | exact HB.out)⟩

end Go.Proofs.Ytmdhniaelmipcaa.Q
namespace Go.Proofs.Ytmdhniaelmipcaa.Q
open Go.RowKit Go.Proofs.YtmdhniaelmipcaaW.PrintWords Go.Proofs.YtmdhniaelmipcaaW.PrintLast Go.Proofs.YtmdhniaelmipcaaW.PrintMore
attribute [local go_sem] max2_int min2_int max_two min_two max_three min_three max_four min_four   -- for this text's walks alone
set_option linter.unusedVariables false
set_option linter.unusedSimpArgs false

/-- THE ONE PURE STATEMENT of laws_FnExactRowCount. -/
def laws_FnExactRowCount.Pure : Prop := ∀ (x0 : S23) (x1 : S29), W23 x0 → W29 x1 → laws_FnExactRowCount.f x0.f0 x0.f1 x1.f0 x1.f1 x1.f2 x1.f3 = some true
end Go.Proofs.Ytmdhniaelmipcaa.Q
namespace Go.Proofs.Ytmdhniaelmipcaa.Q
open Go.RowKit Go.Proofs.YtmdhniaelmipcaaW.PrintWords Go.Proofs.YtmdhniaelmipcaaW.PrintLast Go.Proofs.YtmdhniaelmipcaaW.PrintMore
attribute [local go_sem] max2_int min2_int max_two min_two max_three min_three max_four min_four   -- for this text's walks alone
set_option linter.unusedVariables false
set_option linter.unusedSimpArgs false

/-- THE ONE PURE STATEMENT of laws_FnExactValidRates. -/
def laws_FnExactValidRates.Pure : Prop := ∀ (x0 : S35), W35 x0 → laws_FnExactValidRates.f x0.f0 x0.f1 x0.f2 x0.f3 x0.f4 = some true
end Go.Proofs.Ytmdhniaelmipcaa.Q
namespace Go.Proofs.Ytmdhniaelmipcaa.Q
open Go.RowKit Go.Proofs.YtmdhniaelmipcaaW.PrintWords Go.Proofs.YtmdhniaelmipcaaW.PrintLast Go.Proofs.YtmdhniaelmipcaaW.PrintMore
attribute [local go_sem] max2_int min2_int max_two min_two max_three min_three max_four min_four   -- for this text's walks alone
set_option linter.unusedVariables false
set_option linter.unusedSimpArgs false

/-- THE ONE PURE STATEMENT of laws_FnExactValidRoom. -/
def laws_FnExactValidRoom.Pure : Prop := ∀ (x0 : S23), W23 x0 → laws_FnExactValidRoom.f x0.f0 x0.f1 = some true
end Go.Proofs.Ytmdhniaelmipcaa.Q
namespace Go.Proofs.Ytmdhniaelmipcaa.Q
open Go.RowKit Go.Proofs.YtmdhniaelmipcaaW.PrintWords Go.Proofs.YtmdhniaelmipcaaW.PrintLast Go.Proofs.YtmdhniaelmipcaaW.PrintMore
attribute [local go_sem] max2_int min2_int max_two min_two max_three min_three max_four min_four   -- for this text's walks alone
set_option linter.unusedVariables false
set_option linter.unusedSimpArgs false

/-- THE ONE PURE STATEMENT of laws_FnExactValidStock. -/
def laws_FnExactValidStock.Pure : Prop := ∀ (x0 : S29), W29 x0 → laws_FnExactValidStock.f x0.f0 x0.f1 x0.f2 x0.f3 = some true
end Go.Proofs.Ytmdhniaelmipcaa.Q
/- Own lemmas on rooms, stocks and rates: what the reference's and the program's functions answer, as plain values. -/
namespace Go.Proofs.Ytmdhniaelmipcaa.Q
open Go.RowKit Go.Proofs.YtmdhniaelmipcaaW.PrintWords Go.Proofs.YtmdhniaelmipcaaW.PrintLast Go.Proofs.YtmdhniaelmipcaaW.PrintMore
theorem ite_and (b c : Bool) : (if b = true then some c else some false) = some (b && c) := by cases b <;> rfl
theorem in_f (a b c : Int) : spec_l00In.f a b c = some (decide (b ≤ a) && decide (a ≤ c)) := by unfold spec_l00In.f; by_cases h : a ≥ b <;> simp [h]
theorem within_f (a b c : Int) : impl_within.f a b c = some (decide (b ≤ a) && decide (a ≤ c)) := by unfold impl_within.f; by_cases h : a ≥ b <;> simp [h]
def vRoom (w l : Int) : Bool := (decide (1 ≤ w) && decide (w ≤ 20000)) && (decide (1 ≤ l) && decide (l ≤ 20000))
def vStock (b w l s : Int) : Bool := (decide (10 ≤ b) && decide (b ≤ 5000)) && ((decide (10 ≤ w) && decide (w ≤ 1000)) && ((decide (1 ≤ l) && decide (l ≤ b)) && (decide (0 ≤ s) && decide (s ≤ wrap64 (Int.tdiv b 2)))))
def vRates (h e f w m : Int) : Bool := (decide (0 ≤ h) && decide (h ≤ 100000)) && ((decide (0 ≤ e) && decide (e ≤ 1000)) && ((decide (0 ≤ f) && decide (f ≤ 1000)) && ((decide (0 ≤ w) && decide (w ≤ 300)) && (decide (0 ≤ m) && decide (m ≤ 200)))))
theorem l30Room_f (x : S25) : spec_l30Room.f [x] = some (vRoom x.f0 x.f1) := by
  unfold spec_l30Room.f vRoom; simp [in_f, rd_T25, ite_and]
theorem ValidRoom_f (w l : Int) : spec_ValidRoom.f w l = some (vRoom w l) := by unfold spec_ValidRoom.f; simp [l30Room_f]
theorem iValidRoom_f (w l : Int) : impl_ValidRoom.f w l = some (vRoom w l) := by unfold impl_ValidRoom.f vRoom; simp [within_f, ite_and]
theorem l30Stock_f (x : S31) : spec_l30Stock.f [x] = some (vStock x.f0 x.f1 x.f2 x.f3) := by
  unfold spec_l30Stock.f vStock; simp [in_f, rd_T31, ite_and]
theorem ValidStock_f (b w l s : Int) : spec_ValidStock.f b w l s = some (vStock b w l s) := by unfold spec_ValidStock.f; simp [l30Stock_f]
theorem iValidStock_f (b w l s : Int) : impl_ValidStock.f b w l s = some (vStock b w l s) := by unfold impl_ValidStock.f vStock; simp [within_f, ite_and]
theorem l28Ok_f (x : S37) : spec_l28Ok.f [x] = some (vRates x.f0 x.f1 x.f2 x.f3 x.f4) := by
  unfold spec_l28Ok.f vRates; simp [in_f, rd_T37, ite_and]
theorem ValidRates_f (h e f w m : Int) : spec_ValidRates.f h e f w m = some (vRates h e f w m) := by unfold spec_ValidRates.f; simp [l28Ok_f]
theorem iValidRates_f (h e f w m : Int) : impl_ValidRates.f h e f w m = some (vRates h e f w m) := by unfold impl_ValidRates.f vRates; simp [within_f, ite_and]
theorem law_ValidRoom : laws_FnExactValidRoom.Pure := by
  intro x _; unfold laws_FnExactValidRoom.f laws_toRoom.f; simp [ValidRoom_f, iValidRoom_f]
theorem law_ValidStock : laws_FnExactValidStock.Pure := by
  intro x _; unfold laws_FnExactValidStock.f laws_toStock.f; simp [ValidStock_f, iValidStock_f]
theorem law_ValidRates : laws_FnExactValidRates.Pure := by
  intro x _; unfold laws_FnExactValidRates.f laws_toRates.f; simp [ValidRates_f, iValidRates_f]
theorem l30Ok_f (x : S25) (y : S31) : spec_l30Ok.f [x] [y] = some (vRoom x.f0 x.f1 && vStock y.f0 y.f1 y.f2 y.f3) := by
  unfold spec_l30Ok.f; simp [l30Room_f, l30Stock_f, ite_and]
theorem roomCode_f (w l a b c d : Int) : impl_roomCode.f w l a b c d = some (if vRoom w l && vStock a b c d then 0 else 1) := by
  unfold impl_roomCode.f; simp only [iValidRoom_f, iValidStock_f, Option.bind_some]
  cases vRoom w l <;> cases vStock a b c d <;> rfl
theorem up_same (a b : Int) : spec_l28Up.f a b = impl_upDiv.f a b := rfl
theorem vStock_wide {a b c d : Int} (h : vStock a b c d = true) : 10 ≤ a ∧ a ≤ 5000 ∧ 10 ≤ b ∧ b ≤ 1000 ∧ 1 ≤ c ∧ c ≤ a ∧ 0 ≤ d := by
  unfold vStock at h; simp only [Bool.and_eq_true, decide_eq_true_eq] at h; omega
theorem vRoom_wide {w l : Int} (h : vRoom w l = true) : 1 ≤ w ∧ w ≤ 20000 ∧ 1 ≤ l ∧ l ≤ 20000 := by
  unfold vRoom at h; simp only [Bool.and_eq_true, decide_eq_true_eq] at h; omega
theorem law_RowCount : laws_FnExactRowCount.Pure := by
  intro x y _ _; unfold laws_FnExactRowCount.f laws_toRoom.f laws_toStock.f
  simp only [Option.bind_some, spec_RowCount.f, impl_RowCount.f, l30Ok_f, roomCode_f]
  by_cases hv : (vRoom x.f0 x.f1 && vStock y.f0 y.f1 y.f2 y.f3) = true
  · simp only [hv, if_true]
    have hs : vStock y.f0 y.f1 y.f2 y.f3 = true := by simp at hv; exact hv.2
    have hw := vStock_wide hs
    unfold spec_l30Rows.f impl_rows.f spec_l28Up.f impl_upDiv.f
    have h0 : ¬ y.f1 = 0 := by omega
    simp [rd_T25, rd_T31, h0]
    split <;> simp
  · simp only [Bool.not_eq_true] at hv
    simp [hv]
end Go.Proofs.Ytmdhniaelmipcaa.Q
/- Own lemmas: the laws' own helpers on lists of numbers (equal, marked, held). -/
namespace Go.Proofs.Ytmdhniaelmipcaa.Q
open Go.RowKit Go.Proofs.YtmdhniaelmipcaaW.PrintWords Go.Proofs.YtmdhniaelmipcaaW.PrintLast Go.Proofs.YtmdhniaelmipcaaW.PrintMore
theorem w64 {x : Int} (h0 : -9223372036854775808 ≤ x) (h1 : x < 9223372036854775808) : wrap64 x = x := by unfold wrap64; omega
def ups (m : Int) (n : Nat) : List Int := (List.range n).map fun (i : Nat) => m + (i : Int)
theorem ups_length (m : Int) (n : Nat) : (ups m n).length = n := by simp [ups]
theorem ups_cons (m : Int) (n : Nat) : ups m (n + 1) = m :: ups (m + 1) n := by
  simp only [ups, List.range_succ_eq_map, List.map_cons, List.map_map]
  congr 1
  · simp
  · apply List.map_congr_left
    intro i _
    simp only [Function.comp]
    omega
theorem eqInt64S_ev (l : List Int) (hl : l.length < 4611686018427387904) : ∀ k, l.length < k → laws_eqInt64S.f k l l = some true := by
  have go : ∀ (d k : Nat) (i : Int), 0 ≤ i → i + d = l.length → d < k → laws_eqInt64S.l0 k l l i = some true := by
    intro d
    induction d with
    | zero =>
      intro k i h0 h1 hk
      obtain ⟨k, rfl⟩ : ∃ m, k = m + 1 := ⟨k - 1, by omega⟩
      simp only [laws_eqInt64S.l0]
      rw [if_neg (by omega)]
    | succ d ih =>
      intro k i h0 h1 hk
      obtain ⟨k, rfl⟩ : ∃ m, k = m + 1 := ⟨k - 1, by omega⟩
      simp only [laws_eqInt64S.l0]
      rw [if_pos (by omega), if_pos h0, if_pos (by omega)]
      simp only [if_true]
      rw [w64 (by omega) (by omega)]
      exact ih k (i + 1) (by omega) (by omega) (by omega)
  intro k hk
  unfold laws_eqInt64S.f
  rw [if_pos rfl]
  exact go l.length k 0 (by omega) (by omega) hk
theorem set_drop_take (xs : List Int) (i : Nat) (m : Int) (h : i < xs.length) : (xs.set i m).take (i + 1) = xs.take i ++ [m] := by
  rw [List.take_succ_eq_append_getElem (by simpa using h)]
  congr 1
  · rw [List.take_set_of_le (Nat.le_refl _)]
  · simp
theorem markInt64S_ev (l : List Int) (m : Int) (h0 : 0 ≤ m) (hl : m + l.length < 4611686018427387904) : ∀ k, l.length < k → laws_markInt64S.f k l m = some (m + l.length, ups m l.length) := by
  have go : ∀ (d k : Nat) (xs : List Int) (q : Int) (i : Nat), i + d = xs.length → d < k → 0 ≤ q → q + d < 4611686018427387904 → (xs.length : Int) < 4611686018427387904 → laws_markInt64S.l0 k xs q i = some (q + d, xs.take i ++ ups q d) := by
    intro d
    induction d with
    | zero =>
      intro k xs q i h1 hk _ _ _
      obtain ⟨k, rfl⟩ : ∃ m, k = m + 1 := ⟨k - 1, by omega⟩
      simp only [laws_markInt64S.l0]
      rw [if_neg (by omega), List.take_of_length_le (by omega)]
      simp [ups]
    | succ d ih =>
      intro k xs q i h1 hk h2 h3 h4
      obtain ⟨k, rfl⟩ : ∃ m, k = m + 1 := ⟨k - 1, by omega⟩
      simp only [laws_markInt64S.l0]
      rw [if_pos (by omega), if_pos (by omega), w64 (by omega) (by omega), w64 (by omega) (by omega)]
      have := ih k (xs.set i q) (q + 1) (i + 1) (by rw [List.length_set]; omega) (by omega) (by omega) (by omega) (by rw [List.length_set]; omega)
      rw [Int.toNat_natCast, show ((i : Int) + 1) = ((i + 1 : Nat) : Int) by omega, this, set_drop_take _ _ _ (by omega), ups_cons]
      simp only [List.append_assoc, List.singleton_append, Option.some.injEq, Prod.mk.injEq, and_true]
      omega
  intro k hk
  unfold laws_markInt64S.f
  have := go l.length k l m 0 (by omega) hk h0 hl (by omega)
  simpa using this
theorem heldInt64S_ev (m : Int) (n : Nat) (h0 : 0 ≤ m) (hl : m + n < 4611686018427387904) : ∀ k, n < k → laws_heldInt64S.f k (ups m n) m = some (m + n) := by
  have go : ∀ (d k : Nat) (q : Int) (i : Nat), i + d = n → q = m + i → d < k → laws_heldInt64S.l0 k (ups m n) q i = some (q + d) := by
    intro d
    induction d with
    | zero =>
      intro k q i h1 h2 hk
      obtain ⟨k, rfl⟩ : ∃ m, k = m + 1 := ⟨k - 1, by omega⟩
      simp only [laws_heldInt64S.l0]
      rw [if_neg (by rw [ups_length]; omega)]
      simp
    | succ d ih =>
      intro k q i h1 h2 hk
      obtain ⟨k, rfl⟩ : ∃ m, k = m + 1 := ⟨k - 1, by omega⟩
      simp only [laws_heldInt64S.l0]
      have hrd : rd (ups m n) (i : Int) = q := by
        unfold rd ups
        rw [List.getD_eq_getElem?_getD, List.getElem?_map, List.getElem?_range (by omega)]
        simp [h2]
      rw [if_pos (by rw [ups_length]; omega), if_pos (by omega), hrd, if_pos rfl, w64 (by omega) (by omega), w64 (by omega) (by omega)]
      have := ih k (q + 1) (i + 1) (by omega) (by omega) (by omega)
      rw [show ((i : Int) + 1) = ((i + 1 : Nat) : Int) by omega, this]
      simp only [Option.some.injEq]
      omega
  intro k hk
  unfold laws_heldInt64S.f
  have := go n k m 0 (by omega) (by omega) hk
  simpa using this
end Go.Proofs.Ytmdhniaelmipcaa.Q
/- Own lemmas: the pieces and the joints of a row, by the reference and by the program. -/
namespace Go.Proofs.Ytmdhniaelmipcaa.Q
open Go.RowKit Go.Proofs.YtmdhniaelmipcaaW.PrintWords Go.Proofs.YtmdhniaelmipcaaW.PrintLast Go.Proofs.YtmdhniaelmipcaaW.PrintMore
def js (a : Int) : List Int → List Int
  | [] => []
  | x :: t => a :: js (a + x) t
theorem js_length (a : Int) (t : List Int) : (js a t).length = t.length := by
  induction t generalizing a with
  | nil => rfl
  | cons x t ih => simp [js, ih]
theorem loops (y : S31) (W l : Int) (h1 : 1 ≤ y.f0) (h2 : y.f0 ≤ 5000) (hW : W ≤ 20000) : ∀ (n : Nat) (rest at_ : Int) (p j : List Int) (c : Int), rest.toNat ≤ n → 0 < rest → at_ + rest = W → 0 ≤ at_ →
    p.length + n ≤ 100000 → j.length + n ≤ 100000 → ∃ (t : List Int) (L : Int), t.length ≤ n ∧ (∀ x ∈ t, 0 ≤ x ∧ x ≤ 20000) ∧ ∀ k, n + 1 < k →
      spec_l30Pieces.l0 k [y] p rest = some (if L < y.f2 then ([], 6) else (p ++ t, 0)) ∧
      impl_makeRow.l0 k at_ W l y.f0 y.f1 y.f2 y.f3 p j c = some (if L < y.f2 then ([], [], 0, 6) else (p ++ t, j ++ js at_ t, L, 0)) := by
  intro n
  induction n with
  | zero => intro rest at_ p j c a b; omega
  | succ n ih =>
    intro rest at_ p j c ha hb hc hd he hf
    by_cases hr : rest > y.f0
    · obtain ⟨t, L, ht, hx, hk⟩ := ih (rest - y.f0) (at_ + y.f0) (p ++ [y.f0]) (j ++ [at_]) y.f0 (by omega) (by omega) (by omega) (by omega) (by simp; omega) (by simp; omega)
      refine ⟨y.f0 :: t, L, by simp; omega, ?_, fun k hk0 => ?_⟩
      · intro x hxm
        rcases List.mem_cons.1 hxm with rfl | hxm
        · omega
        · exact hx x hxm
      · obtain ⟨k, rfl⟩ : ∃ m, k = m + 1 := ⟨k - 1, by omega⟩
        obtain ⟨e1, e2⟩ := hk k (by omega)
        constructor
        · simp only [spec_l30Pieces.l0]
          rw [if_pos (by simp)]
          have hrd : rd_T31 [y] 0 = y := rfl
          rw [hrd, if_pos hr, if_pos (by omega), w64 (by omega) (by omega), e1]
          simp
        · simp only [impl_makeRow.l0]
          have hm : mn (wrap64 (W - at_)) y.f0 = y.f0 := by rw [w64 (by omega) (by omega)]; unfold mn; rw [if_pos (by omega)]
          rw [hm, if_pos (by omega), if_pos (by omega), if_pos (by omega), w64 (by omega) (by omega), e2]
          simp [js]
    · refine ⟨[rest], rest, by simp, ?_, fun k hk0 => ?_⟩
      · intro x hxm
        have : x = rest := by simpa using hxm
        omega
      · obtain ⟨k, rfl⟩ : ∃ m, k = m + 2 := ⟨k - 2, by omega⟩
        constructor
        · simp only [spec_l30Pieces.l0]
          rw [if_pos (by simp)]
          have hrd : rd_T31 [y] 0 = y := rfl
          rw [hrd, if_neg hr]
          by_cases hL : rest < y.f2
          · rw [if_pos hL, if_pos hL]
          · rw [if_neg hL, if_neg hL, if_pos (by omega)]
        · simp only [impl_makeRow.l0]
          have hm : mn (wrap64 (W - at_)) y.f0 = rest := by rw [w64 (by omega) (by omega)]; unfold mn; split <;> omega
          rw [hm, if_pos (by omega), if_pos (by omega), if_pos (by omega), w64 (x := at_ + rest) (by omega) (by omega), if_neg (by omega)]
          by_cases hL : rest < y.f2
          · rw [if_pos hL, if_pos hL]
          · rw [if_neg hL, if_neg hL]; simp [js]
/-- What both come to: the pieces f :: t (or none) with a code, the joints, the last piece. -/
theorem row_same (x : S25) (y : S31) (a : Int) (hx : vRoom x.f0 x.f1 = true) (hy : vStock y.f0 y.f1 y.f2 y.f3 = true) :
    ∃ (p j : List Int) (L c : Int), p.length ≤ 30000 ∧ j.length ≤ 30000 ∧ (∀ x ∈ p, 0 ≤ x ∧ x ≤ 20000) ∧ (∀ k, 30000 < k →
      spec_l30Pieces.f k [x] [y] a = some (p, c) ∧ impl_makeRow.f k x.f0 x.f1 y.f0 y.f1 y.f2 y.f3 a = some (p, j, L, c)) ∧ (c = 0 → ∃ f t, p = f :: t ∧ j = js f t) ∧ (c ≠ 0 → p = [] ∧ j = []) := by
  have hxw := vRoom_wide hx
  have hyw := vStock_wide hy
  have hrd : rd_T31 [y] 0 = y := rfl
  have hrx : rd_T25 [x] 0 = x := rfl
  by_cases hin : (decide (y.f2 ≤ a) && decide (a ≤ y.f0)) = true
  · have hin' : y.f2 ≤ a ∧ a ≤ y.f0 := by simpa using hin
    by_cases hle : x.f0 ≤ a
    · refine ⟨[x.f0], [], x.f0, 0, by simp, by simp, ?_, fun k hk => ⟨?_, ?_⟩, fun _ => ⟨x.f0, [], rfl, rfl⟩, fun h => absurd rfl h⟩
      · intro z hz
        have : z = x.f0 := by simpa using hz
        omega
      · unfold spec_l30Pieces.f
        rw [if_pos (by simp), hrd, hrx, in_f, hin]
        simp [hle]
      · unfold impl_makeRow.f
        rw [within_f, hin]
        simp [hle]
    · obtain ⟨t, L, ht, hz, hk⟩ := loops y x.f0 x.f1 (by omega) (by omega) (by omega) (x.f0 - a).toNat (x.f0 - a) a [a] [] 0 (by omega) (by omega) (by omega) (by omega) (by simp; omega) (by simp; omega)
      have hs : ∀ k, 30000 < k → spec_l30Pieces.f k [x] [y] a = spec_l30Pieces.l0 k [y] [a] (x.f0 - a) := by
        intro k _
        unfold spec_l30Pieces.f
        rw [if_pos (by simp), hrd, hrx, in_f, hin]
        simp only [Option.bind_some, if_true]
        rw [if_pos (by simp), if_neg hle, w64 (by omega) (by omega)]
      have hi : ∀ k, 30000 < k → impl_makeRow.f k x.f0 x.f1 y.f0 y.f1 y.f2 y.f3 a = impl_makeRow.l0 k a x.f0 x.f1 y.f0 y.f1 y.f2 y.f3 [a] [] 0 := by
        intro k _
        unfold impl_makeRow.f
        rw [within_f, hin]
        simp only [Option.bind_some, if_true]
        rw [if_neg hle]
      by_cases hL : L < y.f2
      · refine ⟨[], [], 0, 6, by simp, by simp, by simp, fun k hk0 => ?_, fun h => absurd h (by decide), fun _ => ⟨rfl, rfl⟩⟩
        obtain ⟨e1, e2⟩ := hk k (by omega)
        rw [hs k hk0, hi k hk0, e1, e2, if_pos hL, if_pos hL]
        exact ⟨rfl, rfl⟩
      · refine ⟨a :: t, js a t, L, 0, by simp; omega, by rw [js_length]; omega, ?_, fun k hk0 => ?_, fun _ => ⟨a, t, rfl, rfl⟩, fun h => absurd rfl h⟩
        · intro z hzm
          rcases List.mem_cons.1 hzm with rfl | hzm
          · omega
          · exact hz z hzm
        · obtain ⟨e1, e2⟩ := hk k (by omega)
          rw [hs k hk0, hi k hk0, e1, e2, if_neg hL, if_neg hL]
          exact ⟨rfl, rfl⟩
  · refine ⟨[], [], 0, 2, by simp, by simp, by simp, fun k hk => ⟨?_, ?_⟩, fun h => absurd h (by decide), fun _ => ⟨rfl, rfl⟩⟩
    · unfold spec_l30Pieces.f
      rw [if_pos (by simp), hrd, in_f]
      simp only [Bool.not_eq_true] at hin
      simp [hin]
    · unfold impl_makeRow.f
      rw [within_f]
      simp only [Bool.not_eq_true] at hin
      simp [hin]
end Go.Proofs.Ytmdhniaelmipcaa.Q
/- Own lemmas: the joints of a row; RowJoints. -/
namespace Go.Proofs.Ytmdhniaelmipcaa.Q
open Go.RowKit Go.Proofs.YtmdhniaelmipcaaW.PrintWords Go.Proofs.YtmdhniaelmipcaaW.PrintLast Go.Proofs.YtmdhniaelmipcaaW.PrintMore
theorem joints_ev (f : Int) (t : List Int) (hl : t.length ≤ 30000) (hf : 0 ≤ f ∧ f ≤ 20000) (ht : ∀ x ∈ t, 0 ≤ x ∧ x ≤ 20000) : ∀ k, t.length + 1 < k → spec_l30Joints.f k (f :: t) = some (js f t) := by
  have go : ∀ (s : List Int) (k : Nat) (pre out : List Int) (g a : Int) (i : Nat), f :: t = pre ++ g :: s → pre.length = i → s.length < k → 0 ≤ a → a ≤ 20000 * i → out.length ≤ i →
      spec_l30Joints.l0 k (f :: t) out a i = some (out ++ js (a + g) s) := by
    intro s
    induction s with
    | nil =>
      intro k pre out g a i hp hi hk _ _ _
      obtain ⟨k, rfl⟩ : ∃ m, k = m + 1 := ⟨k - 1, by omega⟩
      simp only [spec_l30Joints.l0]
      have : (f :: t).length = i + 1 := by rw [hp]; simp [hi]
      have hlt : (f :: t).length = t.length + 1 := rfl
      rw [if_neg (by rw [w64 (by omega) (by omega)]; omega)]
      simp [js]
    | cons b s ih =>
      intro k pre out g a i hp hi hk ha ha2 ho
      obtain ⟨k, rfl⟩ : ∃ m, k = m + 1 := ⟨k - 1, by omega⟩
      simp only [spec_l30Joints.l0]
      have hlen : (f :: t).length = i + 2 + s.length := by rw [hp]; simp [hi]; omega
      have hlt : (f :: t).length = t.length + 1 := rfl
      have hrd : rd (f :: t) (i : Int) = g := by
        rw [hp]
        unfold rd
        rw [List.getD_eq_getElem?_getD, List.getElem?_append_right (by omega)]
        simp [hi]
      have hg : 0 ≤ g ∧ g ≤ 20000 := by
        have hm : g ∈ f :: t := by rw [hp]; simp
        rcases List.mem_cons.1 hm with rfl | hm
        · exact hf
        · exact ht g hm
      rw [hrd, w64 (x := (i : Int) + 1) (by omega) (by omega), if_pos (by omega), if_pos (by omega), if_pos (by omega), if_pos (by omega), w64 (x := a + g) (by omega) (by omega)]
      have := ih k (pre ++ [g]) (out ++ [a + g]) b (a + g) (i + 1) (by rw [hp]; simp) (by simp [hi]) (by simp at hk; omega) (by omega) (by omega) (by simp; omega)
      rw [show ((i : Int) + 1) = ((i + 1 : Nat) : Int) by omega, this]
      simp [js]
  intro k hk
  unfold spec_l30Joints.f
  have := go t k [] [] f 0 0 rfl rfl (by omega) (by omega) (by omega) (by simp)
  simpa using this
theorem law_RowJoints : laws_FnExactRowJoints.Pure := by
  intro x y a _ _ _
  refine ⟨100002, ?_⟩
  unfold laws_FnExactRowJoints.f laws_toRoom.f laws_toStock.f
  simp only [Option.bind_some, spec_RowJoints.f, impl_RowJoints.f, l30Ok_f, roomCode_f]
  by_cases hv : (vRoom x.f0 x.f1 && vStock y.f0 y.f1 y.f2 y.f3) = true
  · have hv' := hv
    rw [Bool.and_eq_true] at hv'
    obtain ⟨p, j, L, c, hp, hj, hpx, hk, h0, h1⟩ := row_same ⟨x.f0, x.f1⟩ ⟨y.f0, y.f1, y.f2, y.f3⟩ a hv'.1 hv'.2
    obtain ⟨e1, e2⟩ := hk 100002 (by omega)
    obtain ⟨e3, e4⟩ := hk 100001 (by omega)
    simp only [] at e1 e2 e3 e4
    simp only [hv, if_true, e1, e2, Option.bind_some]
    have hs : (if c = 0 then (spec_l30Joints.f 100002 p).bind fun t364 => some (t364, 0) else some ([], c)) = some (j, c) := by
      by_cases hc : c = 0
      · obtain ⟨f, t, rfl, rfl⟩ := h0 hc
        rw [if_pos hc, joints_ev f t (by simp at hp; omega) (hpx f (by simp)) (fun z hz => hpx z (by simp [hz])) _ (by simp at hp; omega), hc]
        rfl
      · rw [if_neg hc, (h1 hc).2]
    rw [hs]
    simp only [Option.bind_some]
    rw [eqInt64S_ev j (by omega) _ (by omega)]
    simp only [Option.bind_some, if_true, laws_FnExactRowJoints.j0, bne_self_eq_false, Bool.false_eq_true, if_false]
    rw [markInt64S_ev j 1 (by omega) (by omega) _ (by omega)]
    simp only [Option.bind_some]
    rw [heldInt64S_ev 1 j.length (by omega) (by omega) _ (by omega)]
    simp only [Option.bind_some, if_true, laws_toRoom.f, laws_toStock.f, impl_RowJoints.f, roomCode_f, hv]
    rw [if_neg (by omega)]
    simp only [e4, Option.bind_some]
    rw [eqInt64S_ev j (by omega) _ (by omega)]
    simp only [Option.bind_some, if_true, bne_self_eq_false, laws_FnExactRowJoints.j1, Bool.false_eq_true, if_false]
    rw [heldInt64S_ev 1 j.length (by omega) (by omega) _ (by omega)]
    simp only [Option.bind_some, if_true]
    rw [if_neg (by omega)]
  · simp only [Bool.not_eq_true] at hv
    simp only [hv, Bool.false_eq_true, if_false, Option.bind_some]
    rw [if_neg (by decide)]
    simp only [Option.bind_some]
    rw [eqInt64S_ev [] (by simp) _ (by simp)]
    simp only [Option.bind_some, if_true, laws_FnExactRowJoints.j0, bne_self_eq_false, Bool.false_eq_true, if_false]
    rw [markInt64S_ev [] 1 (by omega) (by simp) _ (by simp)]
    simp only [Option.bind_some]
    rw [heldInt64S_ev 1 [].length (by omega) (by simp) _ (by simp)]
    simp only [Option.bind_some, if_true, laws_toRoom.f, laws_toStock.f, impl_RowJoints.f, roomCode_f, hv, Bool.false_eq_true, if_false]
    rw [if_neg (by decide), if_neg (by decide)]
    simp only [Option.bind_some]
    rw [eqInt64S_ev [] (by simp) _ (by simp)]
    simp only [Option.bind_some, if_true, bne_self_eq_false, laws_FnExactRowJoints.j1, Bool.false_eq_true, if_false]
    rw [heldInt64S_ev 1 [].length (by omega) (by simp) _ (by simp)]
    simp
end Go.Proofs.Ytmdhniaelmipcaa.Q
/- For all rooms, stocks and first pieces, the program's RowJoints returns what the reference's returns; no condition. -/
namespace Go.Proofs.Ytmdhniaelmipcaa.Pure
open Go.Proofs.Ytmdhniaelmipcaa.Q
theorem FnExactRowJoints : laws_FnExactRowJoints.Pure := law_RowJoints
end Go.Proofs.Ytmdhniaelmipcaa.Pure
namespace Go.Proofs.Ytmdhniaelmipcaa.fnExactRowJoints
open Go.ChangeShapes Go.WideShapes Go.ChangeAt Go.RowKit Go.Proofs.Ytmdhniaelmipcaa.OPN Go.Proofs.Ytmdhniaelmipcaa.Q Go.Proofs.YtmdhniaelmipcaaW.PrintWords
open Go.ChangeMaps (open_string shut_string)
set_option linter.unusedVariables false
theorem own : ownKnob Try.prog.godebug = none := by kernel_rfl
theorem laidOut : laidOutB Try.prog = true := by kernel_rfl
set_option maxRecDepth 100000 in
theorem lifted (os : Os) (started : os.Started) (H : Type) (enc : TypeId × Value → H) :
    ReturnsInHanded {} Try.checked os 10 .any (Rows.fnExactRowJointsSpec.pre6 enc Try.prog Try.f10 Rows.fnExactRowJointsRow.domain false) (Rows.fnExactRowJointsSpec.post enc Try.prog Try.f10 false true false false) := by
  refine returnsInHanded_of_change_sized (C := Try.checked) own started (by kernel_rfl) Try.func10
    (ChangeSpec.witness6 (enc := enc) (C := Try.checked) false ⟨#[], #[.agg #[.int .i64 0, .int .i64 0], .agg #[.int .i64 0, .int .i64 0, .int .i64 0, .int .i64 0], .int .i64 0], []⟩ 8 (by kernel_rfl) (by kernel_rfl) (by kernel_rfl) (by kernel_rfl)) ?_
  intro W base args ds gs before hval0 hW hcnd hsz0 _
  have hval : ∀ (j : Nat) t v, Try.f10.params[j]? = some t → args[j]? = some v → Value.okWide Try.prog W .any base t v := hval0
  have hW' := hW
  obtain ⟨p, q, hA0, hV, rfl, hfz, hnd⟩ := hW
  have hA : DataW.TrodAll enc Try.prog W 0 (fun _ => true) true Try.f10.params.toList args.toList ds p := hA0
  rw [Try.params10] at hA hval
  obtain ⟨v0, vs0, d0, ds0, p0, q0, hargs, rfl, rfl, h0, r0⟩ := trodAll_cons hA
  obtain ⟨v1, vs1, d1, ds1, p1, q1, rfl, rfl, rfl, h1, r1⟩ := trodAll_cons r0
  obtain ⟨v2, vs2, d2, ds2, p2, q2, rfl, rfl, rfl, h2, r2⟩ := trodAll_cons r1
  obtain ⟨rfl, rfl, rfl⟩ := trodAll_nil r2
  obtain rfl : args = #[v0, v1, v2] := by cases args; simp_all
  obtain ⟨rfl, rfl⟩ := trodVars_none hV
  have lt0 : ∀ x ∈ p0, x.block < W.heap.size := by obtain ⟨m, hm⟩ := h0; exact DataW.trod_lt m _ _ _ hm
  have k0 := h0
  obtain ⟨cs0, rfl, hs0⟩ := okWide_struct Try.underlying23 (hval 0 23 v0 rfl rfl)
  obtain ⟨fu0, hf0⟩ := h0
  obtain ⟨x0, hK0, w0⟩ := opn23.get (by rw [← opn23.size, ← hs0]; simp [Value.cells]) hf0
  have hcs0 := k23_open hK0
  obtain rfl : cs0 = #[.int .i64 x0.f0, .int .i64 x0.f1] := by apply Array.ext'; exact hcs0
  have lt1 : ∀ x ∈ p1, x.block < W.heap.size := by obtain ⟨m, hm⟩ := h1; exact DataW.trod_lt m _ _ _ hm
  have k1 := h1
  obtain ⟨cs1, rfl, hs1⟩ := okWide_struct Try.underlying29 (hval 1 29 v1 rfl rfl)
  obtain ⟨fu1, hf1⟩ := h1
  obtain ⟨x1, hK1, w1⟩ := opn29.get (by rw [← opn29.size, ← hs1]; simp [Value.cells]) hf1
  have hcs1 := k29_open hK1
  obtain rfl : cs1 = #[.int .i64 x1.f0, .int .i64 x1.f1, .int .i64 x1.f2, .int .i64 x1.f3] := by apply Array.ext'; exact hcs1
  obtain ⟨x2, rfl, rfl, rfl, w2⟩ := open_int Try.underlying2 (hval 2 2 v2 rfl rfl) h2
  clear hA0 hval0 hsz0
  obtain ⟨k, hP⟩ := Pure.FnExactRowJoints x0 x1 x2 w0 w1 w2
  refine (laws_FnExactRowJoints.calls k x0.f0 x0.f1 x1.f0 x1.f1 x1.f2 x1.f3 x2 true W hP).mono fun e W' hh => ?_
  obtain ⟨rfl, bel0⟩ := hh
  have bel : Below W.heap.size W W' := bel0
  exact ⟨_, rfl, _, _, _, [], _, [], hW', trodAll_mk1 (shut_bool Try.underlying4 _), (trodAll_cons_mk (Below.trod laidOut (by kernel_rfl) (of_decide_eq_true (by kernel_rfl)) k0 bel lt0) (trodAll_cons_mk (Below.trod laidOut (by kernel_rfl) (of_decide_eq_true (by kernel_rfl)) k1 bel lt1) (trodAll_cons_mk (shut_int Try.underlying2 w2) trodAll_mk0))), rfl, bel.frame _, fun h => by cases h⟩
theorem over : Rows.fnExactRowJointsRow.holds Try.pinned (OpenSpec.ofChange Rows.fnExactRowJointsSpec) :=
  OpenClaim.holds_of_wide 10 Try.f10 rfl rfl rfl rfl rfl rfl rfl ⟨rfl, rfl, rfl, rfl, rfl⟩ rfl rfl rfl rfl rfl (by kernel_rfl) Try.func10 (by kernel_rfl)
    (of_decide_eq_true (by kernel_rfl)) (by unfold Func.isWrapper; first | (rw [if_pos (by decide +kernel)]; kernel_rfl) | (rw [if_neg (by decide +kernel)]; exact ⟨rfl, rfl⟩))
    (fun os started H enc _ => lifted os started H enc)
theorem proved : Rows.FnExactRowJointsSaid := over
#print axioms proved
end Go.Proofs.Ytmdhniaelmipcaa.fnExactRowJoints
namespace Go.Proofs.Ytmdhniaelmipcaa
/-- The row, under a short name, for the claim. -/
theorem fnExactRowJoints_holds : Rows.FnExactRowJointsSaid := fnExactRowJoints.proved
end Go.Proofs.Ytmdhniaelmipcaa
