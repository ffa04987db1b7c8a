/- For every two lists of features, the law FnExactGreedyMatches returns true: the program matches as the reference does, in memory of its own, and leaves what it was handed as it was. This text holds the functions' walks and the words for them. -/
import Derived.Test.YteafahnopgmgoaaKFnExactGreedyMatchesa
import Derived.Test.YteafahnopgmgoaaKFnExactGreedyMatchesc
import Derived.Test.YteafahnopgmgoaaKFnExactGreedyMatchesb
set_option linter.unusedVariables false
set_option linter.unusedSimpArgs false
namespace Go.Proofs.Yteafahnopgmgoaa.Q
open Go.RowKit Go.Proofs.YteafahnopgmgoaaW.PrintWords Go.Proofs.YteafahnopgmgoaaW.PrintLast Go.Proofs.YteafahnopgmgoaaW.PrintMore
attribute [local go_sem] max2_int min2_int max_two min_two max_three min_three max_four min_four
set_option linter.unusedVariables false
set_option linter.unusedSimpArgs false
def impl_GreedyMatches.l0 : Nat → List (S28) → List (S28) → Int → Int → List Int → Option (List Int × Int)
  | 0, _, _, _, _, _ => none
  | k + 1, x1, x20, x21, x22, x106000 => if x22 < x21 then (if 0 ≤ x22 then (if x22 < (x20.length : Int) then ((impl_RankedFeatures.f k x1 ((rd_T28 x20 x22).f0) ((rd_T28 x20 x22).f1)).bind fun bt108 => ((slices_IndexFunc_int64_int64_c1.f k bt108.1 [x106000]).bind fun t112 => (if 0 ≤ t112 then (if t112 < (bt108.1.length : Int) then (if x106000.length < 17592186044416 then (impl_GreedyMatches.l0 k x1 x20 x21 (wrap64 (x22 + 1)) (x106000 ++ [rd bt108.1 t112])) else (none)) else (none)) else (none)))) else (none)) else (none)) else (some (x106000, 0))
def impl_GreedyMatches.f (k : Nat) (l0 : List (S28)) (l1 : List (S28)) : Option (List Int × Int) := (impl_matchesCode.f k l0 l1 1).bind fun t101 => (if t101 = 0 then (impl_GreedyMatches.l0 k l1 l0 (l0.length : Int) 0 (([] : List Int))) else (some (([] : List Int), t101)))
def impl_GreedyMatches.T10 : Bool × List (List Nat × List Nat) := (true, [([], []), ([], []), ([], []), ([1, 2], [1, 2]), ([3], [3]), ([4], [4]), ([0, 5], [0, 5]), ([6, 6, 0, 1, 2, 3, 4, 5, 6], [6])])
def impl_GreedyMatches.B10 : List Nat := [0, 0, 0, 6, 14, 30, 63, 127]
theorem impl_GreedyMatches.tab10 : rtab .any (opsOf Try.f48 10) = impl_GreedyMatches.T10 := by kernel_rfl
theorem impl_GreedyMatches.bits10 : waitsOk impl_GreedyMatches.T10.2 impl_GreedyMatches.B10 = true := by kernel_rfl
set_option maxHeartbeats 8000000 in
set_option maxRecDepth 100000 in
theorem impl_GreedyMatches.calls (k : Nat) (A0 : Option Addr) (c0 : Nat) (l0 : List (S28)) (A1 : Option Addr) (c1 : Nat) (l1 : List (S28)) (r1 : List Int) (r2 : Int) (w : World) (hr0 : Kd.C k28 w A0 l0.length l0) (hc0 : l0.length ≤ c0) (hr1 : Kd.C k28 w A1 l1.length l1) (hc1 : l1.length ≤ c1) (h : impl_GreedyMatches.f k l0 l1 = some (r1, r2)) :
    Calls Try.prog 48 #[.slice A0 l0.length c0, .slice A1 l1.length c1] w fun e w' => ∃ v0_ : Value, e = .returned (.tuple #[v0_, .int .i64 r2]) ∧ Kd.R (Kd.int .i64) 2 w' w.heap.size (fun _ => True) v0_ r1 ∧ Below w.heap.size w w' := by
  have hu28 := Try.underlying28
  have HR0 := Aside0.mk hr0
  have HC0 := Aside0.mk hc0
  clear hr0 hc0
  have HR1 := Aside0.mk hr1
  have HC1 := Aside0.mk hc1
  clear hr1 hc1
  have HB := Aside0.mk (Below.refl w.heap.size w)
  have H : ((impl_matchesCode.f k l0 l1 1).bind fun t101 => (if t101 = 0 then (impl_GreedyMatches.l0 k l1 l0 (l0.length : Int) 0 (([] : List Int))) else (some (([] : List Int), t101)))) = some (r1, r2) := h
  clear h
  replace H := Option.bind_eq_some_iff.mp H
  obtain ⟨t101, A30, H⟩ := H
  replace H : (if t101 = 0 then (impl_GreedyMatches.l0 k l1 l0 (l0.length : Int) 0 (([] : List Int))) else (some (([] : List Int), t101))) = some (r1, r2) := H
  have A3 := Aside0.mk A30
  clear A30
  have HC4 := Aside0.mk H
  clear H
  go_enter Try.func48, Try.ntmps48
  go_upto_if 17 with (first | ((with_reducible refine gate_callee (f := 75) rfl ?_); refine goesL_ (some 15) rfl rfl Try.func75 (by kernel_rfl) rfl #[.slice A0 l0.length c0, .slice A1 l1.length c1, .int .i64 1] rfl (by (try simp only [List.map_toArray, List.map_cons, List.map_nil]); first | done | rfl | (simp only [List.length_drop, List.length_take]; rfl)) ?_; (with_reducible refine (impl_matchesCode.calls k _ _ l0 _ _ l1 1 t101 _ ?side1 ?side2 ?side3 ?side4 A3.out).mono ?_); (case side1 => repeat (first | exact HR0.out | (with_reducible refine Kd.C_alloc ?_ _) | (with_reducible refine Kd.C_drewN ?_ _) | (with_reducible refine Kd.C_drew ?_))); (case side2 => exact HC0.out); (case side3 => repeat (first | exact HR1.out | (with_reducible refine Kd.C_alloc ?_ _) | (with_reducible refine Kd.C_drewN ?_ _) | (with_reducible refine Kd.C_drew ?_))); (case side4 => exact HC1.out); rintro e w5 ⟨rfl, hb⟩; refine ⟨_, rfl, ?_⟩; have n0_ := Aside0.mk (below_step (by repeat (first | (with_reducible first | exact HB.out | apply below_alloc | apply pw_below_drewN | apply below_drew1) | exact HB.out)) hb); clear HB; have HB := n0_; clear n0_; (try clear hb); (try clear hb2); (try clear hk); (try clear hi)))
  (try simp only [Act.put, List.setIfInBounds_toArray, List.set_cons_zero, List.set_cons_succ])
  have H := HC4.out
  clear HC4
  by_cases c6 : t101 = 0
  · rw [if_pos c6] at H
    have c6b0 : (t101 == 0) = true := beq_iff_eq.mpr c6
    have c6b1 : (t101 != 0) = false := bne_eq_false_iff_eq.mpr c6
    clear c6
    (first | rw [c6b0] | (simp only [i64_w, i32_w]; rw [c6b0]) | (simp only [c6b2, Bool.not_true, Bool.not_false]) | (simp only [c6b1, Bool.not_true, Bool.not_false]) | (simp only [c6b0, Bool.not_true, Bool.not_false]) | skip)
    obtain ⟨y102, hy102⟩ : ∃ y_ : List Int, y_ = (([] : List Int)) := ⟨_, rfl⟩
    replace H : (impl_GreedyMatches.l0 k l1 l0 (l0.length : Int) 0 y102) = some (r1, r2) := by first | (rw [hy102]; with_reducible exact H) | (have H2_ := (Option.bind_some _ _).symm.trans H; rw [hy102]; with_reducible exact H2_) | (have H2_ := (Option.bind_some _ _).symm.trans H; with_reducible exact H2_) | with_reducible exact H | (rw [hy102]; exact H) | exact H
    have Ny102 := Aside0.mk hy102
    clear hy102
    have H' := Aside0.mk H
    clear H
    go_wp2_with (first | ((with_reducible refine gate_dst (N := 19) rfl ?_); refine Kd.R_lit (Kd.int .i64) _ 2 ?hg (N := 19) ?hd (xs := ([] : List Int)) (inner := []) (ok := fun _ => True) (okp := fun _ => True) ?hr ?hp (fun _ hk => hk) trivial (Below.refl _ _) (Nat.le_refl _) (by simp) ?_; (case hd => rfl); (case hg => rfl); (case hr => first | (go_simp; done) | (go_simp; rfl)); (case hp => exact (Reps.none _ _)); intro v103 w7 ho8 hb hg_ hnew_; clear hg_ hnew_; (first | rw [← Ny102.out] at ho8 | (simp only [Int.reduceToNat] at ho8; rw [← Ny102.out] at ho8)); have n0_ := Aside0.mk (Kd.R_lower ho8 (below_size (by repeat (first | (with_reducible first | exact HB.out | apply below_alloc | apply pw_below_drewN | apply below_drew1) | exact HB.out)))); have n1_ := Aside0.mk (below_step (by repeat (first | (with_reducible first | exact HB.out | apply below_alloc | apply pw_below_drewN | apply below_drew1) | exact HB.out)) hb); clear HB; have HO104 := n0_; have HB := n1_; clear n0_ n1_; clear hb ho8) | ((with_reducible refine gate_dst (N := 7) rfl ?_); refine box_event ?hg (N := 7) ?hd (cs := #[.slice none 0 0]) (t := 22) ?hr ?_; (case hd => rfl); (case hg => rfl); (case hr => first | (go_simp; done) | (go_simp; rfl)); intro gb105 hg w9 hbox hb; have n0_ := Aside0.mk (Kd.R_below (by (with_reducible repeat (first | apply Kd.R_alloc | apply Kd.R_drewN | apply Kd.R_drew)); exact HO104.out) hb); have n1_ := Aside0.mk (below_step (by repeat (first | (with_reducible first | exact HB.out | apply below_alloc | apply pw_below_drewN | apply below_drew1) | exact HB.out)) hb); have n2_ := Aside0.mk (hbox); have n3_ := Aside0.mk ((by rw [hg]; exact (below_size (by repeat (first | (with_reducible first | exact HB.out | apply below_alloc | apply pw_below_drewN | apply below_drew1) | exact HB.out))) : w.heap.size ≤ gb105)); have n4_ := Aside0.mk ((by rw [hg]; exact (below_size (by repeat (first | (with_reducible first | exact HB.out | apply below_alloc | apply pw_below_drewN | apply below_drew1) | exact HB.out))) : w.heap.size ≤ gb105)); clear HO104; clear HB; have HO104 := n0_; have HB := n1_; have BK105 := n2_; have GW105 := n3_; have GE105 := n4_; clear n0_ n1_ n2_ n3_ n4_; clear hb hbox hg; obtain ⟨Ao10, co10, eo10⟩ := Kd.R_slice HO104.out; subst eo10; have hcz11_0 : w9.cell? ⟨gb105, 0, none⟩ = some (.slice none 0 0) := (blk_cell BK105.out 0).trans rfl; have hfz11_0 := blk_frozen BK105.out 0))
    (try simp only [Act.put, List.setIfInBounds_toArray, List.set_cons_zero, List.set_cons_succ])
    go_loopg [22] k (fun kq v22 w' => ∃ (x22_1 : Int) (x106000_1 : List Int) (u106000 : Value), v22 = .int .i64 x22_1 ∧ Aside0 (impl_GreedyMatches.l0 kq l1 l0 (l0.length : Int) x22_1 x106000_1 = some (r1, r2)) ∧ Aside0 (kq ≤ k) ∧ Aside0 (Kd.R (Kd.int .i64) 2 w' w.heap.size (fun _ => True) u106000 x106000_1) ∧ Aside0 (w'.heap[gb105]? = some (.cells #[u106000] 22 (0, 0))) ∧ Aside0 (Below w.heap.size w w'))
    case atStart => exact ⟨(0), (y102), (.slice Ao10 y102.length co10), (by first | rfl | (simp; done) | (simp [*]; done)), H', ⟨Nat.le_refl _⟩, ⟨by (with_reducible repeat (first | apply Kd.R_alloc | apply Kd.R_drewN | apply Kd.R_drew)); exact Kd.R_mono (Kd.R_far (p := ⟨gb105, 0, none⟩) (Kd.R_types HO104.out BK105.out (by decide)) (fun _ hk => hk.2) (.slice Ao10 y102.length co10)) (fun _ hk => trivial)⟩, ⟨by (with_reducible repeat (first | refine blk_drewN ?_ _ | refine blk_drew ?_ | refine blk_alloc ?_ _)); refine blk_put (cs := #[.slice none 0 0]) ?_ 0 _ rfl; (with_reducible repeat (first | refine blk_drewN ?_ _ | refine blk_drew ?_ | refine blk_alloc ?_ _)); exact BK105.out⟩, ⟨by repeat (first | (with_reducible first | exact HB.out | apply below_alloc | apply pw_below_drewN | apply below_drew1 | refine below_set ?_ GE105.out) | exact HB.out)⟩⟩
    case round =>
      clear H'
      try clear c1
      try clear p2
      try clear c4
      try clear c6
      try clear c6b0
      try clear c6b1
      try clear c6b2
      try clear c7
      try clear hcz11_0
      try clear hfz11_0
      obtain ⟨x22_1, x106000_1, u106000, rfl, HA, HK1, HO_106000, BK105, HB⟩ := hrel
      cases gk with
      | zero => exact absurd HA.out (by simp [impl_GreedyMatches.l0])
      | succ k1 =>
        have H := HA.out
        clear HA
        simp only [impl_GreedyMatches.l0] at H
        by_cases c12 : x22_1 < (l0.length : Int)
        · rw [if_pos c12] at H
          have c12b0 : decide (x22_1 < (l0.length : Int)) = true := decide_eq_true c12
          clear c12
          by_cases c13 : 0 ≤ x22_1
          · rw [if_pos c13] at H
            have c13b0 : decide (0 ≤ x22_1) = true := decide_eq_true c13
            clear c13
            by_cases c14 : x22_1 < (l0.length : Int)
            · rw [if_pos c14] at H
              have c14b0 : decide (x22_1 < (l0.length : Int)) = true := decide_eq_true c14
              clear c14
              replace H := Option.bind_eq_some_iff.mp H
              obtain ⟨⟨t108, t111⟩, A150, H⟩ := H
              replace H : ((slices_IndexFunc_int64_int64_c1.f k1 t108 [x106000_1]).bind fun t112 => (if 0 ≤ t112 then (if t112 < (t108.length : Int) then (if x106000_1.length < 17592186044416 then (impl_GreedyMatches.l0 k1 l1 l0 (l0.length : Int) (wrap64 (x22_1 + 1)) (x106000_1 ++ [rd t108 t112])) else (none)) else (none)) else (none))) = some (r1, r2) := H
              have A15 := Aside0.mk A150
              clear A150
              replace H := Option.bind_eq_some_iff.mp H
              obtain ⟨t112, A160, H⟩ := H
              replace H : (if 0 ≤ t112 then (if t112 < (t108.length : Int) then (if x106000_1.length < 17592186044416 then (impl_GreedyMatches.l0 k1 l1 l0 (l0.length : Int) (wrap64 (x22_1 + 1)) (x106000_1 ++ [rd t108 t112])) else (none)) else (none)) else (none)) = some (r1, r2) := H
              have A16 := Aside0.mk A160
              clear A160
              by_cases c17 : 0 ≤ t112
              · rw [if_pos c17] at H
                have c17b0 : decide (0 ≤ t112) = true := decide_eq_true c17
                clear c17
                by_cases c18 : t112 < (t108.length : Int)
                · rw [if_pos c18] at H
                  have c18b0 : decide (t112 < (t108.length : Int)) = true := decide_eq_true c18
                  clear c18
                  by_cases c19 : x106000_1.length < 17592186044416
                  · rw [if_pos c19] at H
                    have LMc19 := Aside0.mk c19
                    clear c19
                    obtain ⟨y114, hy114⟩ : ∃ y_ : List Int, y_ = (x106000_1 ++ [rd t108 t112]) := ⟨_, rfl⟩
                    replace H : (impl_GreedyMatches.l0 k1 l1 l0 (l0.length : Int) (wrap64 (x22_1 + 1)) y114) = some (r1, r2) := by first | (rw [hy114]; with_reducible exact H) | (have H2_ := (Option.bind_some _ _).symm.trans H; rw [hy114]; with_reducible exact H2_) | (have H2_ := (Option.bind_some _ _).symm.trans H; with_reducible exact H2_) | with_reducible exact H | (rw [hy114]; exact H) | exact H
                    have Ny114 := Aside0.mk hy114
                    clear hy114
                    have H' := Aside0.mk H
                    clear H
                    have p106 : 0 ≤ (x22_1 : Int) := of_decide_eq_true (by first | (with_reducible assumption) | assumption)
                    have q106 : x22_1 < (l0.length : Int) := of_decide_eq_true (by first | (with_reducible assumption) | assumption)
                    obtain ⟨ad106, A106_1, c106_1, e106, hx106_0, hx106_1, hl106_1, hi106_1⟩ := at_T28 HR0.out x22_1 p106 q106
                    cases e106
                    replace hx106_0 := (HB.out.cell (World.block_lt_of_cell? w _ hx106_0)).trans hx106_0
                    replace hx106_1 := (HB.out.cell (World.block_lt_of_cell? w _ hx106_1)).trans hx106_1
                    have HR106_1 := Aside0.mk hi106_1
                    have HC106_1 := Aside0.mk hl106_1
                    clear hi106_1 hl106_1
                    replace p106 := eq_true p106
                    replace q106 := eq_true q106
                    try go_wp2_with (first | ((with_reducible refine gate_dst (N := 9) rfl ?_); refine box_event ?hg (N := 9) ?hd (cs := #[.string (⟨#[]⟩ : ByteArray), .slice none 0 0]) (t := 28) ?hr ?_; (case hd => rfl); (case hg => rfl); (case hr => first | (go_simp; done) | (go_simp; rfl)); intro gb107 hg w20 hbox hb; have n0_ := Aside0.mk (Kd.R_below (by (with_reducible repeat (first | apply Kd.R_alloc | apply Kd.R_drewN | apply Kd.R_drew)); exact HO_106000.out) hb); have n1_ := Aside0.mk (blk_below (g := gb105) (o := .cells #[u106000] 22 (0, 0)) (by (with_reducible repeat (first | refine blk_drewN ?_ _ | refine blk_drew ?_ | refine blk_alloc ?_ _)); exact BK105.out) hb); have n2_ := Aside0.mk (below_step (by repeat (first | (with_reducible first | exact HB.out | apply below_alloc | apply pw_below_drewN | apply below_drew1 | refine below_set ?_ GE105.out) | exact HB.out)) hb); have n3_ := Aside0.mk (hbox); have n4_ := Aside0.mk ((by rw [hg]; exact (below_size (by repeat (first | (with_reducible first | exact HB.out | apply below_alloc | apply pw_below_drewN | apply below_drew1 | refine below_set ?_ GE105.out) | exact HB.out))) : w.heap.size ≤ gb107)); have n5_ := Aside0.mk ((by rw [hg]; exact (below_size (by repeat (first | (with_reducible first | exact HB.out | apply below_alloc | apply pw_below_drewN | apply below_drew1 | refine below_set ?_ GE105.out) | exact HB.out))) : w.heap.size ≤ gb107)); have n6_ := Aside0.mk ((by rw [hg]; exact Nat.ne_of_lt (blk_lt (g := gb105) (o := .cells #[u106000] 22 (0, 0)) (by (with_reducible repeat (first | refine blk_drewN ?_ _ | refine blk_drew ?_ | refine blk_alloc ?_ _)); exact BK105.out)) : gb105 ≠ gb107)); have n7_ := Aside0.mk ((by rw [hg]; exact Nat.ne_of_gt (blk_lt (g := gb105) (o := .cells #[u106000] 22 (0, 0)) (by (with_reducible repeat (first | refine blk_drewN ?_ _ | refine blk_drew ?_ | refine blk_alloc ?_ _)); exact BK105.out)) : gb107 ≠ gb105)); clear HO_106000; clear BK105; clear HB; have HO_106000 := n0_; have BK105 := n1_; have HB := n2_; have BK107 := n3_; have GW107 := n4_; have GE107 := n5_; have NB105_107 := n6_; have NB107_105 := n7_; clear n0_ n1_ n2_ n3_ n4_ n5_ n6_ n7_; clear hb hbox hg; have hnb21 := NB107_105.out; have hnc21 := NB105_107.out; have hcz22_0 : w20.cell? ⟨gb107, 0, none⟩ = some (.string (⟨#[]⟩ : ByteArray)) := (blk_cell BK107.out 0).trans rfl; have hcz22_1 : w20.cell? ⟨gb107, 1, none⟩ = some (.slice none 0 0) := (blk_cell BK107.out 1).trans rfl; have hfz22_0 := blk_frozen BK107.out 0; have hfz22_1 := blk_frozen BK107.out 1) | ((with_reducible refine gate_callee (f := 40) rfl ?_); refine goesL_ (some 29) rfl rfl Try.func40 (by kernel_rfl) rfl #[.slice A1 l1.length c1, .agg #[.string ((rd_T28 l0 x22_1).f0), .slice A106_1 ((rd_T28 l0 x22_1).f1).length c106_1]] rfl (by (try simp only [List.map_toArray, List.map_cons, List.map_nil]); first | done | rfl | (simp only [List.length_drop, List.length_take]; rfl)) ?_; (with_reducible refine (impl_RankedFeatures.calls k1 _ _ l1 ((rd_T28 l0 x22_1).f0) _ _ ((rd_T28 l0 x22_1).f1) t108 t111 _ ?side1 ?side2 ?side3 ?side4 A15.out).mono ?_); (case side1 => exact Kd.C_below HR1.out (by repeat (first | (with_reducible first | exact HB.out | apply below_alloc | apply pw_below_drewN | apply below_drew1 | refine below_set ?_ GE105.out | refine below_set ?_ GE107.out) | exact HB.out))); (case side2 => exact HC1.out); (case side3 => exact Kd.C_below HR106_1.out (by repeat (first | (with_reducible first | exact HB.out | apply below_alloc | apply pw_below_drewN | apply below_drew1 | refine below_set ?_ GE105.out | refine below_set ?_ GE107.out) | exact HB.out))); (case side4 => exact HC106_1.out); rintro e w23 ⟨v109, rfl, ho0, hb⟩; refine ⟨_, rfl, ?_⟩; have n0_ := Aside0.mk (Kd.R_elder' (by (with_reducible repeat (first | apply Kd.R_alloc | apply Kd.R_drewN | apply Kd.R_drew)); exact (Kd.R_mono (Kd.R_far (p := ⟨gb107, 1, none⟩) (Kd.R_far (p := ⟨gb107, 0, none⟩) (Kd.R_types HO_106000.out BK107.out (by decide)) (fun _ hk => hk.2) (.string ((rd_T28 l0 x22_1).f0))) (fun _ hk => hk.2) (.slice A106_1 ((rd_T28 l0 x22_1).f1).length c106_1)) (fun _ h_ => h_.1))) (Kd.R_base ho0) hb); have n1_ := Aside0.mk (Kd.R_lower (Kd.R_new' ho0 (Kd.R_lt (by (with_reducible repeat (first | apply Kd.R_alloc | apply Kd.R_drewN | apply Kd.R_drew)); exact (Kd.R_mono (Kd.R_far (p := ⟨gb107, 1, none⟩) (Kd.R_far (p := ⟨gb107, 0, none⟩) (Kd.R_types HO_106000.out BK107.out (by decide)) (fun _ hk => hk.2) (.string ((rd_T28 l0 x22_1).f0))) (fun _ hk => hk.2) (.slice A106_1 ((rd_T28 l0 x22_1).f1).length c106_1)) (fun _ h_ => h_.1))))) (below_size (by repeat (first | (with_reducible first | exact HB.out | apply below_alloc | apply pw_below_drewN | apply below_drew1 | refine below_set ?_ GE105.out | refine below_set ?_ GE107.out) | exact HB.out)))); have n2_ := Aside0.mk (blk_below (g := gb105) (o := .cells #[u106000] 22 (0, 0)) (by (with_reducible repeat (first | refine blk_drewN ?_ _ | refine blk_drew ?_ | refine blk_alloc ?_ _)); refine blk_far ?_ NB105_107.out _; (with_reducible repeat (first | refine blk_drewN ?_ _ | refine blk_drew ?_ | refine blk_alloc ?_ _)); refine blk_far ?_ NB105_107.out _; (with_reducible repeat (first | refine blk_drewN ?_ _ | refine blk_drew ?_ | refine blk_alloc ?_ _)); exact BK105.out) hb); have n3_ := Aside0.mk (blk_below (g := gb107) (o := .cells #[.string ((rd_T28 l0 x22_1).f0), .slice A106_1 ((rd_T28 l0 x22_1).f1).length c106_1] 28 (0, 0)) (by (with_reducible repeat (first | refine blk_drewN ?_ _ | refine blk_drew ?_ | refine blk_alloc ?_ _)); refine blk_put (cs := #[.string ((rd_T28 l0 x22_1).f0), .slice none 0 0]) ?_ 1 _ rfl; (with_reducible repeat (first | refine blk_drewN ?_ _ | refine blk_drew ?_ | refine blk_alloc ?_ _)); refine blk_put (cs := #[.string (⟨#[]⟩ : ByteArray), .slice none 0 0]) ?_ 0 _ rfl; (with_reducible repeat (first | refine blk_drewN ?_ _ | refine blk_drew ?_ | refine blk_alloc ?_ _)); exact BK107.out) hb); have n4_ := Aside0.mk (below_step (by repeat (first | (with_reducible first | exact HB.out | apply below_alloc | apply pw_below_drewN | apply below_drew1 | refine below_set ?_ GE105.out | refine below_set ?_ GE107.out) | exact HB.out)) hb); clear HO_106000; clear BK105; clear BK107; clear HB; have HO_106000 := n0_; have HO110 := n1_; have BK105 := n2_; have BK107 := n3_; have HB := n4_; clear n0_ n1_ n2_ n3_ n4_; (try clear hb); (try clear hb2); (try clear hk); (try clear hi); (try clear ho0); obtain ⟨Ao24, co24, eo24⟩ := Kd.R_slice HO_106000.out; subst eo24; obtain ⟨Ao25, co25, eo25⟩ := Kd.R_slice HO110.out; subst eo25) | ((with_reducible refine gate_callee (f := 76) rfl ?_); refine goesL_ (some 34) rfl rfl Try.func76 (by kernel_rfl) rfl #[.slice Ao25 t108.length co25, .func (.func 77) #[] #[.pointer (some (Addr.add ⟨gb105, 0, none⟩ 0))]] rfl (by (try simp only [List.map_toArray, List.map_cons, List.map_nil]); first | done | rfl | (simp only [List.length_drop, List.length_take]; rfl)) ?_; (with_reducible refine (slices_IndexFunc_int64_int64_c1.calls k1 _ _ t108 _ [x106000_1] t112 _ ?side1 ?side2 ?side3 A16.out).mono ?_); (case side1 => repeat (first | exact (Kd.R_reads' HO110.out).2.2 | (with_reducible refine Kd.C_alloc ?_ _) | (with_reducible refine Kd.C_drewN ?_ _) | (with_reducible refine Kd.C_drew ?_))); (case side2 => exact (Kd.R_reads' HO110.out).2.1); (case side3 => exact (RPW.C_blk (cs := [.slice Ao24 x106000_1.length co24]) (t := 22) (g := gb105) (by (with_reducible repeat (first | refine blk_drewN ?_ _ | refine blk_drew ?_ | refine blk_alloc ?_ _)); exact BK105.out) ⟨_, _, rfl, (by exact (Kd.R_reads' HO_106000.out).2.1), (by repeat (first | exact (Kd.R_reads' HO_106000.out).2.2 | (with_reducible refine Kd.C_alloc ?_ _) | (with_reducible refine Kd.C_drewN ?_ _) | (with_reducible refine Kd.C_drew ?_)))⟩)); rintro e w' ⟨rfl, ⟨nd, rfl⟩⟩; refine ⟨_, rfl, ?_⟩; (try (rw [drewN_self w23]; generalize hq_ : World.drewN w23 _ = w23; have n0_ : Aside0 (Kd.R (Kd.int .i64) 2 w23 w.heap.size (fun k_ => (True ∧ some k_ ≠ (.slice Ao24 x106000_1.length co24 : Value).ownBlock)) (.slice Ao25 t108.length co25) t108) := ⟨by rw [← hq_]; exact (by (with_reducible repeat (first | apply Kd.R_alloc | apply Kd.R_drewN | apply Kd.R_drew)); exact HO110.out)⟩; have n1_ : Aside0 (Kd.R (Kd.int .i64) 2 w23 w.heap.size (fun k_ => (True ∧ some k_ ≠ (.slice Ao25 t108.length co25 : Value).ownBlock)) (.slice Ao24 x106000_1.length co24) x106000_1) := ⟨by rw [← hq_]; exact (by (with_reducible repeat (first | apply Kd.R_alloc | apply Kd.R_drewN | apply Kd.R_drew)); exact HO_106000.out)⟩; have n2_ : Aside0 (w23.heap[gb105]? = some (.cells #[.slice Ao24 x106000_1.length co24] 22 (0, 0))) := ⟨by rw [← hq_]; exact (by (with_reducible repeat (first | refine blk_drewN ?_ _ | refine blk_drew ?_ | refine blk_alloc ?_ _)); exact BK105.out)⟩; have n3_ : Aside0 (w23.heap[gb107]? = some (.cells #[.string ((rd_T28 l0 x22_1).f0), .slice A106_1 ((rd_T28 l0 x22_1).f1).length c106_1] 28 (0, 0))) := ⟨by rw [← hq_]; exact (by (with_reducible repeat (first | refine blk_drewN ?_ _ | refine blk_drew ?_ | refine blk_alloc ?_ _)); exact BK107.out)⟩; have n4_ : Aside0 (Below w.heap.size w w23) := ⟨by rw [← hq_]; exact (by repeat (first | (with_reducible first | exact HB.out | apply below_alloc | apply pw_below_drewN | apply below_drew1 | refine below_set ?_ GE105.out | refine below_set ?_ GE107.out) | exact HB.out))⟩; clear HO110 HO_106000 BK105 BK107 HB hq_; have HO110 := n0_; have HO_106000 := n1_; have BK105 := n2_; have BK107 := n3_; have HB := n4_; clear n0_ n1_ n2_ n3_ n4_))))
                    have n0_ := Aside0.mk (Kd.R_drew HO_106000.out)
                    have n1_ := Aside0.mk (Kd.R_drew HO110.out)
                    have n2_ := Aside0.mk (blk_drew BK105.out)
                    have n3_ := Aside0.mk (blk_drew BK107.out)
                    have n4_ := Aside0.mk (below_drew1 HB.out)
                    clear HO_106000
                    clear HO110
                    clear BK105
                    clear BK107
                    clear HB
                    have HO_106000 := n0_
                    have HO110 := n1_
                    have BK105 := n2_
                    have BK107 := n3_
                    have HB := n4_
                    clear n0_ n1_ n2_ n3_ n4_
                    have p113 : 0 ≤ (t112 : Int) := of_decide_eq_true (by first | (with_reducible assumption) | assumption)
                    have q113 : t112 < (t108.length : Int) := of_decide_eq_true (by first | (with_reducible assumption) | assumption)
                    obtain ⟨ad113, e113, hx113_0⟩ := Kd.at_int (Kd.R_reads' HO110.out).2.2 t112 p113 q113
                    cases e113
                    replace p113 := eq_true p113
                    replace q113 := eq_true q113
                    refine start_ (n := 8) (S := fun w' => w'.cell? ⟨gb105, 0, none⟩ = some (.slice Ao24 x106000_1.length co24) ∧ w'.cell? (ad113.add (t112).toNat) = some (.int .i64 (rd t108 t112))) (ds := [6, 7]) #[false, false, false, false, false, false, false, false] (by kernel_rfl) rfl rfl ⟨(blk_cell BK105.out 0).trans rfl, hx113_0⟩ (fun hHeld => ?_); refine with_tabW impl_GreedyMatches.tab10 impl_GreedyMatches.bits10 (fun HT_ HW_ => ?_)
                    generalize w23.drew = w26 at HO_106000 HO110 BK105 BK107 HB hx113_0 hHeld ⊢
                    refine pure_ (i := 1) (N := some 36) (v := ?_) (a' := ?_) #[false, true, false, false, false, false, false, false] rfl rfl (any_of HT_.out (by kernel_rfl)) (fun _ _ _ h => h) (Or.inl ⟨by rfl, ?_⟩) ?_ ?_
                    rotate_left
                    · intro w'
                      go_simp
                      with_reducible rfl
                    rotate_left
                    · simp only [Act.put, List.setIfInBounds_toArray, List.set_cons_zero, List.set_cons_succ, i64_w, i32_w]
                      rfl
                    refine pure_ (i := 2) (N := some 37) (v := ?_) (a' := ?_) #[false, true, true, false, false, false, false, false] rfl rfl (any_of HT_.out (by kernel_rfl)) (fun _ _ _ h => h) (Or.inl ⟨by rfl, ?_⟩) ?_ ?_
                    rotate_left
                    · intro w'
                      go_simp
                      with_reducible rfl
                    rotate_left
                    · simp only [Act.put, List.setIfInBounds_toArray, List.set_cons_zero, List.set_cons_succ, i64_w, i32_w]
                      rfl
                    refine pure_ (i := 3) (N := some 38) (v := ?_) (a' := ?_) #[false, true, true, true, false, false, false, false] rfl rfl (any_of HT_.out (by kernel_rfl)) (fun _ _ _ h => h) (Or.inl ⟨by rfl, ?_⟩) ?_ ?_
                    rotate_left
                    · intro w'
                      go_simp
                      with_reducible rfl
                    rotate_left
                    · simp only [Act.put, List.setIfInBounds_toArray, List.set_cons_zero, List.set_cons_succ, i64_w, i32_w]
                      rfl
                    refine take_ (i := 0) (N := some 35) (v := ?_) (a' := ?_) #[true, true, true, true, false, false, false, false] rfl rfl (take_ofW HT_.out HW_.out (by kernel_rfl)) (fun _ _ _ h => h) (Or.inl ⟨by rfl, ?_⟩) hHeld ?_ ?_
                    rotate_left
                    · rintro w' ⟨s0, s1⟩
                      go_simp
                      with_reducible rfl
                    rotate_left
                    · simp only [Act.put, List.setIfInBounds_toArray, List.set_cons_zero, List.set_cons_succ, i64_w, i32_w]
                      rfl
                    refine take_ (i := 4) (N := some 39) (v := ?_) (a' := ?_) #[true, true, true, true, true, false, false, false] rfl rfl (take_ofW HT_.out HW_.out (by kernel_rfl)) (fun _ _ _ h => h) (Or.inl ⟨by rfl, ?_⟩) hHeld ?_ ?_
                    rotate_left
                    · rintro w' ⟨s0, s1⟩
                      go_simp
                      with_reducible rfl
                    rotate_left
                    · simp only [Act.put, List.setIfInBounds_toArray, List.set_cons_zero, List.set_cons_succ, i64_w, i32_w]
                      rfl
                    refine one_ (i := 5) (N := some 40) #[true, true, true, true, true, true, false, false] rfl rfl (one_of HT_.out (by kernel_rfl)) (by decide) (fun K hK => ?_)
                    refine value_ (w1 := ?_) (v := ?_) (by rfl) rfl ?_ ?_
                    rotate_left 2
                    · go_simp
                      constructor
                      · rfl
                      · rfl
                    refine hK.out _ _ ⟨(blk_cell (blk_alloc BK105.out _) 0).trans rfl, (World.cell?_alloc_lt _ _ _ (World.block_lt_of_cell? _ _ (hHeld.2))).trans (hHeld.2)⟩ (fun hHeld => ?_)
                    clear hK K
                    refine norm_ (a' := ?_) ?_ ?_
                    rotate_left
                    · show Act.put _ (some 40) _ = _
                      simp only [Act.put, List.setIfInBounds_toArray, List.set_cons_zero, List.set_cons_succ, i64_w, i32_w]
                      rfl
                    refine last_ (i := 6) (N := some 41) #[true, true, true, true, true, true, true, false] rfl rfl (one_of HT_.out (by kernel_rfl)) (by decide) (fun K hK => ?_)
                    refine Kd.R_append_step (Kd.int .i64) (w0 := w) w.heap.size (by rfl) (.tmp 35) (.tmp 40) 22 2 (.int .i64 0) 8 rfl Try.underlying22 info2 rfl (by decide) (by omega) (.slice Ao24 x106000_1.length co24) x106000_1 (rd t108 t112) [.int .i64 (rd t108 t112)] (fun k_ => some k_ ≠ (.slice (some ad113) t108.length co25 : Value).ownBlock) (fun _ => False) rfl rfl ?aP (fun _ hk => hk.elim) ?aF ?aO ?aB ?aS ?aL ?_
                    (case aP => exact rfl)
                    (case aB => exact (by repeat (first | (with_reducible first | exact HB.out | apply below_alloc | apply pw_below_drewN | apply below_drew1 | refine below_set ?_ GE105.out | refine below_set ?_ GE107.out) | exact HB.out)))
                    (case aF => exact (fun k_ hk => Kd.fresh' (Kd.R_lt (by (with_reducible repeat (first | apply Kd.R_alloc | apply Kd.R_drewN | apply Kd.R_drew)); exact HO110.out)) k_ hk))
                    (case aO => exact (by (with_reducible repeat (first | apply Kd.R_alloc | apply Kd.R_drewN | apply Kd.R_drew)); exact Kd.R_mono HO_106000.out (fun _ hk => hk.2)))
                    (case aS => exact (below_size (by repeat (first | (with_reducible first | exact HB.out | apply below_alloc | apply pw_below_drewN | apply below_drew1 | refine below_set ?_ GE105.out | refine below_set ?_ GE107.out) | exact HB.out))))
                    (case aL => have := LMc19.out; omega)
                    intro v115 w27 ho hb hg hat
                    rw [← Ny114.out] at ho
                    have n0_ := Aside0.mk (blk_grown (g := gb105) (o := .cells #[.slice Ao24 x106000_1.length co24] 22 (0, 0)) (by (with_reducible repeat (first | refine blk_drewN ?_ _ | refine blk_drew ?_ | refine blk_alloc ?_ _)); exact BK105.out) hg (Kd.R_ne HO_106000.out BK105.out (by decide)))
                    have n1_ := Aside0.mk (blk_grown (g := gb107) (o := .cells #[.string ((rd_T28 l0 x22_1).f0), .slice A106_1 ((rd_T28 l0 x22_1).f1).length c106_1] 28 (0, 0)) (by (with_reducible repeat (first | refine blk_drewN ?_ _ | refine blk_drew ?_ | refine blk_alloc ?_ _)); exact BK107.out) hg (Kd.R_ne HO_106000.out BK107.out (by decide)))
                    have n2_ := Aside0.mk (Kd.R_after (ok := (fun _ => True)) (by (with_reducible repeat (first | apply Kd.R_alloc | apply Kd.R_drewN | apply Kd.R_drew)); exact HO110.out) hg hat)
                    have n3_ := Aside0.mk (hb)
                    have n4_ := Aside0.mk (ho)
                    clear BK105
                    clear BK107
                    clear HO110
                    clear HB
                    clear HO_106000
                    have BK105 := n0_
                    have BK107 := n1_
                    have HO110 := n2_
                    have HB := n3_
                    have HO116 := n4_
                    clear n0_ n1_ n2_ n3_ n4_
                    clear ho hb hg hat
                    obtain ⟨Ao28, co28, eo28⟩ := Kd.R_slice HO116.out
                    (first | subst eo28 | (injection eo28 with f1_ f2_ f3_; have f4_ := f1_.symm; have f5_ := f3_.symm; clear f1_ f2_ f3_; subst f4_; subst f5_))
                    refine hK.out _ _ ?_
                    clear hK K
                    refine norm_ (a' := ?_) ?_ ?_
                    rotate_left
                    · show Act.put _ (some 41) _ = _
                      simp only [Act.put, List.setIfInBounds_toArray, List.set_cons_zero, List.set_cons_succ, i64_w, i32_w]
                      rfl
                    refine last_ (i := 7) (N := none) #[true, true, true, true, true, true, true, true] rfl rfl (one_of HT_.out (by kernel_rfl)) (by decide) (fun K hK => ?_)
                    have hs29 : w27.cell? ⟨gb105, 0, none⟩ = some (.slice Ao24 x106000_1.length co24) := (blk_cell BK105.out 0).trans rfl
                    have hfs29 := blk_frozen BK105.out 0
                    have hns29_1 := NB107_105.out
                    have hms29_1 := NB105_107.out
                    refine skip_ (w1 := ?_) (by rfl) rfl ?_ ?_
                    rotate_left
                    · go_simp
                      rfl
                    refine hK.out _ _ ?_
                    clear hK K
                    refine done_ (done_of HT_.out (by kernel_rfl)) ?_
                    try go_wp2
                    go_roundg k1
                    case measure => have := HK1.out; omega
                    case rel => exact ⟨(wrap64 (x22_1 + 1)), (y114), (.slice Ao28 y114.length co28), (by first | rfl | (simp; done) | (simp [*]; done)), H', ⟨by have := HK1.out; omega⟩, ⟨by (with_reducible repeat (first | apply Kd.R_alloc | apply Kd.R_drewN | apply Kd.R_drew)); exact Kd.R_mono (Kd.R_far (p := ⟨gb105, 0, none⟩) (Kd.R_types HO116.out BK105.out (by decide)) (fun _ hk => hk.2) (.slice Ao28 y114.length co28)) (fun _ hk => trivial)⟩, ⟨by (with_reducible repeat (first | refine blk_drewN ?_ _ | refine blk_drew ?_ | refine blk_alloc ?_ _)); refine blk_put (cs := #[.slice Ao24 x106000_1.length co24]) ?_ 0 _ rfl; (with_reducible repeat (first | refine blk_drewN ?_ _ | refine blk_drew ?_ | refine blk_alloc ?_ _)); exact BK105.out⟩, ⟨by repeat (first | (with_reducible first | exact HB.out | apply below_alloc | apply pw_below_drewN | apply below_drew1 | refine below_set ?_ GE105.out | refine below_set ?_ GE107.out) | exact HB.out)⟩⟩
                  · rw [if_neg c19] at H
                    exact absurd H (by simp)
                · rw [if_neg c18] at H
                  exact absurd H (by simp)
              · rw [if_neg c17] at H
                exact absurd H (by simp)
            · rw [if_neg c14] at H
              exact absurd H (by simp)
          · rw [if_neg c13] at H
            exact absurd H (by simp)
        · rw [if_neg c12] at H
          have c12b0 : decide (x22_1 < (l0.length : Int)) = false := decide_eq_false c12
          clear c12
          simp only [Option.some.injEq, Prod.mk.injEq] at H
          obtain ⟨rfl, rfl⟩ := H
          have hcz30_0 : wr.cell? ⟨gb105, 0, none⟩ = some (u106000) := (blk_cell BK105.out 0).trans rfl
          have hfz30_0 := blk_frozen BK105.out 0
          go_wp2
          go_ret2
          exact ⟨_, by first | rfl | (simp [errW_none, errW_some] <;> rfl) | (simp [*, errW_none, errW_some] <;> rfl), by (with_reducible repeat (first | apply Kd.R_alloc | apply Kd.R_drewN | apply Kd.R_drew)); exact HO_106000.out, by repeat (first | (with_reducible first | exact HB.out | apply below_alloc | apply pw_below_drewN | apply below_drew1 | refine below_set ?_ GE105.out) | exact HB.out)⟩
  · rw [if_neg c6] at H
    have c6b0 : (t101 == 0) = false := beq_eq_false_iff_ne.mpr c6
    have c6b1 : (t101 != 0) = true := bne_iff_ne.mpr c6
    (first | rw [c6b0] | (simp only [i64_w, i32_w]; rw [c6b0]) | (simp only [c6b2, Bool.not_true, Bool.not_false]) | (simp only [c6b1, Bool.not_true, Bool.not_false]) | (simp only [c6b0, Bool.not_true, Bool.not_false]) | skip)
    simp only [Option.some.injEq, Prod.mk.injEq] at H
    obtain ⟨rfl, rfl⟩ := H
    go_wp2
    go_ret2
    exact ⟨_, by first | rfl | (simp [errW_none, errW_some] <;> rfl) | (simp [*, errW_none, errW_some] <;> rfl), by first | exact Kd.R_nil _ _ _ _ _ | exact Kd.N_nil _ _ _ _ _ | exact Kd.V_nil _ _ _ _ _ | exact Kd.Q_nil _ _ _ _ _ | exact Kd.S_nil _ _ _ _ _, by repeat (first | (with_reducible first | exact HB.out | apply below_alloc | apply pw_below_drewN | apply below_drew1) | exact HB.out)⟩
end Go.Proofs.Yteafahnopgmgoaa.Q
namespace Go.Proofs.Yteafahnopgmgoaa.Q
open Go.RowKit Go.Proofs.YteafahnopgmgoaaW.PrintWords Go.Proofs.YteafahnopgmgoaaW.PrintLast Go.Proofs.YteafahnopgmgoaaW.PrintMore
attribute [local go_sem] max2_int min2_int max_two min_two max_three min_three max_four min_four
set_option linter.unusedVariables false
set_option linter.unusedSimpArgs false
mutual
def laws_FnExactGreedyMatches.j0 : Nat → List (S24) → List (S24) → List Int → Int → List (S28) → List (S28) → List Int → Int → Bool → Option (Bool)
  | 0, _, _, _, _, _, _, _, _, _ => none
  | k + 1, x0, x1, x6, x7, x8, x9, x10, x11, x53 => if x53 = true then (some false) else ((laws_toFeatureS.f k x0).bind fun t124 => ((laws_eqFeatureS.f k x8 t124).bind fun t127 => (if t127 = true then ((laws_toFeatureS.f k x1).bind fun t128 => ((laws_eqFeatureS.f k x9 t128).bind fun t131 => (if t131 = true then ((laws_markFeatureS.f k x8 1).bind fun bt132 => ((laws_markFeatureS.f k x9 bt132.1).bind fun bt134 => (if bt134.1 < 0 then (laws_FnExactGreedyMatches.j1 k x0 x1 x6 x7 x10 true) else ((laws_eqInt64S.f k x10 x6).bind fun t136 => (if t136 = true then (laws_FnExactGreedyMatches.j1 k x0 x1 x6 x7 x10 (x11 != x7)) else (laws_FnExactGreedyMatches.j1 k x0 x1 x6 x7 x10 true)))))) else (some false)))) else (some false))))
def laws_FnExactGreedyMatches.j1 : Nat → List (S24) → List (S24) → List Int → Int → List Int → Bool → Option (Bool)
  | 0, _, _, _, _, _, _ => none
  | k + 1, x0, x1, x6, x7, x10, x82 => if x82 = true then (some false) else ((laws_markInt64S.f k x10 1).bind fun bt137 => ((laws_heldInt64S.f k bt137.2 1).bind fun t139 => (if t139 < 0 then (some false) else (if t139 = bt137.1 then ((laws_toFeatureS.f k x0).bind fun t140 => ((laws_toFeatureS.f k x1).bind fun t143 => ((impl_GreedyMatches.f k t140 t143).bind fun bt146 => ((laws_eqInt64S.f k bt146.1 x6).bind fun t150 => (if t150 = true then (laws_FnExactGreedyMatches.j2 k bt137.2 bt137.1 (bt146.2 != x7)) else (laws_FnExactGreedyMatches.j2 k bt137.2 bt137.1 true)))))) else (some false)))))
def laws_FnExactGreedyMatches.j2 : Nat → List Int → Int → Bool → Option (Bool)
  | 0, _, _, _ => none
  | k + 1, x10, x13, x110 => if x110 = true then (some false) else ((laws_heldInt64S.f k x10 1).bind fun t151 => (if t151 < 0 then (some false) else (if t151 = x13 then (some true) else (some false))))
end
def laws_FnExactGreedyMatches.f (k : Nat) (l0 : List (S24)) (l1 : List (S24)) : Option (Bool) := (laws_szFeatureS.f k l0 1048576).bind fun t101 => (if t101 < 0 then (some true) else ((laws_szFeatureS.f k l1 t101).bind fun t102 => (if t102 < 0 then (some true) else ((laws_toFeatureS.f k l0).bind fun t103 => ((laws_toFeatureS.f k l1).bind fun t106 => ((spec_GreedyMatches.f k t103 t106).bind fun bt109 => ((laws_toFeatureS.f k l0).bind fun t113 => ((laws_toFeatureS.f k l1).bind fun t116 => ((impl_GreedyMatches.f k t113 t116).bind fun bt119 => ((laws_eqInt64S.f k bt119.1 bt109.1).bind fun t123 => (if t123 = true then (laws_FnExactGreedyMatches.j0 k l0 l1 bt109.1 bt109.2 t113 t116 bt119.1 bt119.2 (bt119.2 != bt109.2)) else (laws_FnExactGreedyMatches.j0 k l0 l1 bt109.1 bt109.2 t113 t116 bt119.1 bt119.2 true))))))))))))
set_option maxHeartbeats 8000000 in
set_option maxRecDepth 100000 in
theorem laws_FnExactGreedyMatches.calls (k : Nat) (A0 : Option Addr) (c0 : Nat) (l0 : List (S24)) (A1 : Option Addr) (c1 : Nat) (l1 : List (S24)) (r : Bool) (w : World) (hr0 : Kd.C k24 w A0 l0.length l0) (hc0 : l0.length ≤ c0) (hr1 : Kd.C k24 w A1 l1.length l1) (hc1 : l1.length ≤ c1) (h : laws_FnExactGreedyMatches.f k l0 l1 = some r) :
    Calls Try.prog 11 #[.slice A0 l0.length c0, .slice A1 l1.length c1] w fun e w' => e = .returned (.bool r) ∧ Below w.heap.size w w' := by
  have HR0 := Aside0.mk hr0
  have HC0 := Aside0.mk hc0
  clear hr0 hc0
  have HR1 := Aside0.mk hr1
  have HC1 := Aside0.mk hc1
  clear hr1 hc1
  have HB := Aside0.mk (Below.refl w.heap.size w)
  have H : ((laws_szFeatureS.f k l0 1048576).bind fun t101 => (if t101 < 0 then (some true) else ((laws_szFeatureS.f k l1 t101).bind fun t102 => (if t102 < 0 then (some true) else ((laws_toFeatureS.f k l0).bind fun t103 => ((laws_toFeatureS.f k l1).bind fun t106 => ((spec_GreedyMatches.f k t103 t106).bind fun bt109 => ((laws_toFeatureS.f k l0).bind fun t113 => ((laws_toFeatureS.f k l1).bind fun t116 => ((impl_GreedyMatches.f k t113 t116).bind fun bt119 => ((laws_eqInt64S.f k bt119.1 bt109.1).bind fun t123 => (if t123 = true then (laws_FnExactGreedyMatches.j0 k l0 l1 bt109.1 bt109.2 t113 t116 bt119.1 bt119.2 (bt119.2 != bt109.2)) else (laws_FnExactGreedyMatches.j0 k l0 l1 bt109.1 bt109.2 t113 t116 bt119.1 bt119.2 true))))))))))))) = some r := h
  clear h
  replace H := Option.bind_eq_some_iff.mp H
  obtain ⟨t101, A30, H⟩ := H
  replace H : (if t101 < 0 then (some true) else ((laws_szFeatureS.f k l1 t101).bind fun t102 => (if t102 < 0 then (some true) else ((laws_toFeatureS.f k l0).bind fun t103 => ((laws_toFeatureS.f k l1).bind fun t106 => ((spec_GreedyMatches.f k t103 t106).bind fun bt109 => ((laws_toFeatureS.f k l0).bind fun t113 => ((laws_toFeatureS.f k l1).bind fun t116 => ((impl_GreedyMatches.f k t113 t116).bind fun bt119 => ((laws_eqInt64S.f k bt119.1 bt109.1).bind fun t123 => (if t123 = true then (laws_FnExactGreedyMatches.j0 k l0 l1 bt109.1 bt109.2 t113 t116 bt119.1 bt119.2 (bt119.2 != bt109.2)) else (laws_FnExactGreedyMatches.j0 k l0 l1 bt109.1 bt109.2 t113 t116 bt119.1 bt119.2 true)))))))))))) = some r := H
  have A3 := Aside0.mk A30
  clear A30
  have HC4 := Aside0.mk H
  clear H
  go_enter Try.func11, Try.ntmps11
  go_upto_if 21 with (first | ((with_reducible refine gate_callee (f := 17) rfl ?_); refine goesL_ (some 19) rfl rfl Try.func17 (by kernel_rfl) rfl #[.slice A0 l0.length c0, .int .i64 1048576] rfl (by (try simp only [List.map_toArray, List.map_cons, List.map_nil]); first | done | rfl | (simp only [List.length_drop, List.length_take]; rfl)) ?_; (with_reducible refine (laws_szFeatureS.calls k _ _ l0 1048576 t101 _ ?side1 ?side2 A3.out).mono ?_); (case side1 => repeat (first | exact HR0.out | (with_reducible refine Kd.C_alloc ?_ _) | (with_reducible refine Kd.C_drewN ?_ _) | (with_reducible refine Kd.C_drew ?_))); (case side2 => exact HC0.out); rintro e w5 ⟨rfl, hb⟩; refine ⟨_, rfl, ?_⟩; have n0_ := Aside0.mk (below_step (by repeat (first | (with_reducible first | exact HB.out | apply below_alloc | apply pw_below_drewN | apply below_drew1) | exact HB.out)) hb); clear HB; have HB := n0_; clear n0_; (try clear hb); (try clear hb2); (try clear hk); (try clear hi)))
  (try simp only [Act.put, List.setIfInBounds_toArray, List.set_cons_zero, List.set_cons_succ])
  have H := HC4.out
  clear HC4
  by_cases c6 : t101 < 0
  · rw [if_pos c6] at H
    have c6b0 : decide (t101 < 0) = true := decide_eq_true c6
    clear c6
    (first | rw [c6b0] | (simp only [i64_w, i32_w]; rw [c6b0]) | (simp only [c6b2, Bool.not_true, Bool.not_false]) | (simp only [c6b1, Bool.not_true, Bool.not_false]) | (simp only [c6b0, Bool.not_true, Bool.not_false]) | skip)
    obtain rfl := Option.some.inj H
    go_wp2
    go_ret
    exact ⟨by first | rfl | (simp [errW_none, errW_some] <;> rfl) | (simp [*, errW_none, errW_some] <;> rfl), by repeat (first | (with_reducible first | exact HB.out | apply below_alloc | apply pw_below_drewN | apply below_drew1) | exact HB.out)⟩
  · rw [if_neg c6] at H
    have c6b0 : decide (t101 < 0) = false := decide_eq_false c6
    clear c6
    (first | rw [c6b0] | (simp only [i64_w, i32_w]; rw [c6b0]) | (simp only [c6b2, Bool.not_true, Bool.not_false]) | (simp only [c6b1, Bool.not_true, Bool.not_false]) | (simp only [c6b0, Bool.not_true, Bool.not_false]) | skip)
    replace H := Option.bind_eq_some_iff.mp H
    obtain ⟨t102, A70, H⟩ := H
    replace H : (if t102 < 0 then (some true) else ((laws_toFeatureS.f k l0).bind fun t103 => ((laws_toFeatureS.f k l1).bind fun t106 => ((spec_GreedyMatches.f k t103 t106).bind fun bt109 => ((laws_toFeatureS.f k l0).bind fun t113 => ((laws_toFeatureS.f k l1).bind fun t116 => ((impl_GreedyMatches.f k t113 t116).bind fun bt119 => ((laws_eqInt64S.f k bt119.1 bt109.1).bind fun t123 => (if t123 = true then (laws_FnExactGreedyMatches.j0 k l0 l1 bt109.1 bt109.2 t113 t116 bt119.1 bt119.2 (bt119.2 != bt109.2)) else (laws_FnExactGreedyMatches.j0 k l0 l1 bt109.1 bt109.2 t113 t116 bt119.1 bt119.2 true)))))))))) = some r := H
    have A7 := Aside0.mk A70
    clear A70
    have HC8 := Aside0.mk H
    clear H
    go_upto_if 26 with (first | ((with_reducible refine gate_callee (f := 17) rfl ?_); refine goesL_ (some 24) rfl rfl Try.func17 (by kernel_rfl) rfl #[.slice A1 l1.length c1, .int .i64 t101] rfl (by (try simp only [List.map_toArray, List.map_cons, List.map_nil]); first | done | rfl | (simp only [List.length_drop, List.length_take]; rfl)) ?_; (with_reducible refine (laws_szFeatureS.calls k _ _ l1 t101 t102 _ ?side1 ?side2 A7.out).mono ?_); (case side1 => repeat (first | exact (Kd.C_below HR1.out (by repeat (first | (with_reducible first | exact HB.out | apply below_alloc | apply pw_below_drewN | apply below_drew1) | exact HB.out))) | (with_reducible refine Kd.C_alloc ?_ _) | (with_reducible refine Kd.C_drewN ?_ _) | (with_reducible refine Kd.C_drew ?_))); (case side2 => exact HC1.out); rintro e w9 ⟨rfl, hb⟩; refine ⟨_, rfl, ?_⟩; have n0_ := Aside0.mk (below_step (by repeat (first | (with_reducible first | exact HB.out | apply below_alloc | apply pw_below_drewN | apply below_drew1) | exact HB.out)) hb); clear HB; have HB := n0_; clear n0_; (try clear hb); (try clear hb2); (try clear hk); (try clear hi)))
    (try simp only [Act.put, List.setIfInBounds_toArray, List.set_cons_zero, List.set_cons_succ])
    have H := HC8.out
    clear HC8
    by_cases c10 : t102 < 0
    · rw [if_pos c10] at H
      have c10b0 : decide (t102 < 0) = true := decide_eq_true c10
      clear c10
      (first | rw [c10b0] | (simp only [i64_w, i32_w]; rw [c10b0]) | (simp only [c10b2, Bool.not_true, Bool.not_false]) | (simp only [c10b1, Bool.not_true, Bool.not_false]) | (simp only [c10b0, Bool.not_true, Bool.not_false]) | skip)
      obtain rfl := Option.some.inj H
      go_wp2
      go_ret
      exact ⟨by first | rfl | (simp [errW_none, errW_some] <;> rfl) | (simp [*, errW_none, errW_some] <;> rfl), by repeat (first | (with_reducible first | exact HB.out | apply below_alloc | apply pw_below_drewN | apply below_drew1) | exact HB.out)⟩
    · rw [if_neg c10] at H
      have c10b0 : decide (t102 < 0) = false := decide_eq_false c10
      clear c10
      (first | rw [c10b0] | (simp only [i64_w, i32_w]; rw [c10b0]) | (simp only [c10b2, Bool.not_true, Bool.not_false]) | (simp only [c10b1, Bool.not_true, Bool.not_false]) | (simp only [c10b0, Bool.not_true, Bool.not_false]) | skip)
      replace H := Option.bind_eq_some_iff.mp H
      obtain ⟨t103, A110, H⟩ := H
      replace H : ((laws_toFeatureS.f k l1).bind fun t106 => ((spec_GreedyMatches.f k t103 t106).bind fun bt109 => ((laws_toFeatureS.f k l0).bind fun t113 => ((laws_toFeatureS.f k l1).bind fun t116 => ((impl_GreedyMatches.f k t113 t116).bind fun bt119 => ((laws_eqInt64S.f k bt119.1 bt109.1).bind fun t123 => (if t123 = true then (laws_FnExactGreedyMatches.j0 k l0 l1 bt109.1 bt109.2 t113 t116 bt119.1 bt119.2 (bt119.2 != bt109.2)) else (laws_FnExactGreedyMatches.j0 k l0 l1 bt109.1 bt109.2 t113 t116 bt119.1 bt119.2 true)))))))) = some r := H
      have A11 := Aside0.mk A110
      clear A110
      replace H := Option.bind_eq_some_iff.mp H
      obtain ⟨t106, A120, H⟩ := H
      replace H : ((spec_GreedyMatches.f k t103 t106).bind fun bt109 => ((laws_toFeatureS.f k l0).bind fun t113 => ((laws_toFeatureS.f k l1).bind fun t116 => ((impl_GreedyMatches.f k t113 t116).bind fun bt119 => ((laws_eqInt64S.f k bt119.1 bt109.1).bind fun t123 => (if t123 = true then (laws_FnExactGreedyMatches.j0 k l0 l1 bt109.1 bt109.2 t113 t116 bt119.1 bt119.2 (bt119.2 != bt109.2)) else (laws_FnExactGreedyMatches.j0 k l0 l1 bt109.1 bt109.2 t113 t116 bt119.1 bt119.2 true))))))) = some r := H
      have A12 := Aside0.mk A120
      clear A120
      replace H := Option.bind_eq_some_iff.mp H
      obtain ⟨⟨t109, t110⟩, A130, H⟩ := H
      replace H : ((laws_toFeatureS.f k l0).bind fun t113 => ((laws_toFeatureS.f k l1).bind fun t116 => ((impl_GreedyMatches.f k t113 t116).bind fun bt119 => ((laws_eqInt64S.f k bt119.1 t109).bind fun t123 => (if t123 = true then (laws_FnExactGreedyMatches.j0 k l0 l1 t109 t110 t113 t116 bt119.1 bt119.2 (bt119.2 != t110)) else (laws_FnExactGreedyMatches.j0 k l0 l1 t109 t110 t113 t116 bt119.1 bt119.2 true)))))) = some r := H
      have A13 := Aside0.mk A130
      clear A130
      replace H := Option.bind_eq_some_iff.mp H
      obtain ⟨t113, A140, H⟩ := H
      replace H : ((laws_toFeatureS.f k l1).bind fun t116 => ((impl_GreedyMatches.f k t113 t116).bind fun bt119 => ((laws_eqInt64S.f k bt119.1 t109).bind fun t123 => (if t123 = true then (laws_FnExactGreedyMatches.j0 k l0 l1 t109 t110 t113 t116 bt119.1 bt119.2 (bt119.2 != t110)) else (laws_FnExactGreedyMatches.j0 k l0 l1 t109 t110 t113 t116 bt119.1 bt119.2 true))))) = some r := H
      have A14 := Aside0.mk A140
      clear A140
      replace H := Option.bind_eq_some_iff.mp H
      obtain ⟨t116, A150, H⟩ := H
      replace H : ((impl_GreedyMatches.f k t113 t116).bind fun bt119 => ((laws_eqInt64S.f k bt119.1 t109).bind fun t123 => (if t123 = true then (laws_FnExactGreedyMatches.j0 k l0 l1 t109 t110 t113 t116 bt119.1 bt119.2 (bt119.2 != t110)) else (laws_FnExactGreedyMatches.j0 k l0 l1 t109 t110 t113 t116 bt119.1 bt119.2 true)))) = some r := H
      have A15 := Aside0.mk A150
      clear A150
      replace H := Option.bind_eq_some_iff.mp H
      obtain ⟨⟨t119, t120⟩, A160, H⟩ := H
      replace H : ((laws_eqInt64S.f k t119 t109).bind fun t123 => (if t123 = true then (laws_FnExactGreedyMatches.j0 k l0 l1 t109 t110 t113 t116 t119 t120 (t120 != t110)) else (laws_FnExactGreedyMatches.j0 k l0 l1 t109 t110 t113 t116 t119 t120 true))) = some r := H
      have A16 := Aside0.mk A160
      clear A160
      have HC17 := Aside0.mk H
      clear H
      go_upto_region 12 with (first | ((with_reducible refine gate_callee (f := 19) rfl ?_); refine goesL_ (some 29) rfl rfl Try.func19 (by kernel_rfl) rfl #[.slice A0 l0.length c0] rfl (by (try simp only [List.map_toArray, List.map_cons, List.map_nil]); first | done | rfl | (simp only [List.length_drop, List.length_take]; rfl)) ?_; (with_reducible refine (laws_toFeatureS.calls k _ _ l0 t103 _ ?side1 ?side2 A11.out).mono ?_); (case side1 => repeat (first | exact (Kd.C_below HR0.out (by repeat (first | (with_reducible first | exact HB.out | apply below_alloc | apply pw_below_drewN | apply below_drew1) | exact HB.out))) | (with_reducible refine Kd.C_alloc ?_ _) | (with_reducible refine Kd.C_drewN ?_ _) | (with_reducible refine Kd.C_drew ?_))); (case side2 => exact HC0.out); rintro e w18 ⟨v104, rfl, ho0, hb⟩; refine ⟨_, rfl, ?_⟩; obtain ⟨BxHO105, hBxHO105⟩ := RPW.ivB hb; have n0_ := Aside0.mk (Kd.S_lower (Kd.S_mono (ok' := fun k_ => (BxHO105 ≤ k_)) (Kd.S_bound ho0) (fun k_ hk_ => (by have h1_ := hk_.2.1; omega))) (below_size (by repeat (first | (with_reducible first | exact HB.out | apply below_alloc | apply pw_below_drewN | apply below_drew1) | exact HB.out)))); have n1_ := Aside0.mk (below_step (by repeat (first | (with_reducible first | exact HB.out | apply below_alloc | apply pw_below_drewN | apply below_drew1) | exact HB.out)) hb); clear HB; have HO105 := n0_; have HB := n1_; clear n0_ n1_; (try clear hb); (try clear hb2); (try clear hk); (try clear hi); (try clear ho0)) | ((with_reducible refine gate_callee (f := 19) rfl ?_); refine goesL_ (some 31) rfl rfl Try.func19 (by kernel_rfl) rfl #[.slice A1 l1.length c1] rfl (by (try simp only [List.map_toArray, List.map_cons, List.map_nil]); first | done | rfl | (simp only [List.length_drop, List.length_take]; rfl)) ?_; (with_reducible refine (laws_toFeatureS.calls k _ _ l1 t106 _ ?side1 ?side2 A12.out).mono ?_); (case side1 => repeat (first | exact (Kd.C_below HR1.out HB.out) | (with_reducible refine Kd.C_alloc ?_ _) | (with_reducible refine Kd.C_drewN ?_ _) | (with_reducible refine Kd.C_drew ?_))); (case side2 => exact HC1.out); rintro e w19 ⟨v107, rfl, ho0, hb⟩; refine ⟨_, rfl, ?_⟩; obtain ⟨BxHO108, hBxHO108⟩ := RPW.ivB hb; have n0_ := Aside0.mk (Kd.S_mono (ok' := fun k_ => (BxHO105 ≤ k_ ∧ k_ < BxHO108) ∧ some k_ ≠ (v107 : Value).ownBlock) (Kd.S_old (HO105.out) hb) (fun k_ hk_ => ⟨(by have h1_ := hk_.1; have h2_ := hk_.2; omega), fun e_ => Nat.not_le.2 hk_.2 (Kd.S_base ho0 k_ e_.symm)⟩)); have n1_ := Aside0.mk (Kd.S_lower (Kd.S_mono (ok' := fun k_ => (BxHO108 ≤ k_) ∧ some k_ ≠ (v104 : Value).ownBlock) (Kd.S_bound ho0) (fun k_ hk_ => ⟨(by have h1_ := hk_.2.1; omega), (Kd.fresh' (Kd.S_lt (by (with_reducible repeat (first | apply Kd.S_alloc | apply Kd.S_drewN | apply Kd.S_drew)); exact HO105.out)) k_ hk_.2.1)⟩)) (below_size (by repeat (first | (with_reducible first | exact HB.out | apply below_alloc | apply pw_below_drewN | apply below_drew1) | exact HB.out)))); have n2_ := Aside0.mk (below_step (by repeat (first | (with_reducible first | exact HB.out | apply below_alloc | apply pw_below_drewN | apply below_drew1) | exact HB.out)) hb); clear HO105; clear HB; have HO105 := n0_; have HO108 := n1_; have HB := n2_; clear n0_ n1_ n2_; (try clear hb); (try clear hb2); (try clear hk); (try clear hi); (try clear ho0); obtain ⟨Ao20, co20, eo20⟩ := Kd.S_slice HO105.out; subst eo20; obtain ⟨Ao21, co21, eo21⟩ := Kd.S_slice HO108.out; subst eo21) | ((with_reducible refine gate_callee (f := 47) rfl ?_); refine goesL_ (some 32) rfl rfl Try.func47 (by kernel_rfl) rfl #[.slice Ao20 t103.length co20, .slice Ao21 t106.length co21] rfl (by (try simp only [List.map_toArray, List.map_cons, List.map_nil]); first | done | rfl | (simp only [List.length_drop, List.length_take]; rfl)) ?_; (with_reducible refine (spec_GreedyMatches.calls k _ _ t103 _ _ t106 t109 t110 _ ?side1 ?side2 ?side3 ?side4 A13.out).mono ?_); (case side1 => repeat (first | exact (Kd.S_reads' HO105.out).2.2 | (with_reducible refine Kd.C_alloc ?_ _) | (with_reducible refine Kd.C_drewN ?_ _) | (with_reducible refine Kd.C_drew ?_))); (case side2 => exact (Kd.S_reads' HO105.out).2.1); (case side3 => repeat (first | exact (Kd.S_reads' HO108.out).2.2 | (with_reducible refine Kd.C_alloc ?_ _) | (with_reducible refine Kd.C_drewN ?_ _) | (with_reducible refine Kd.C_drew ?_))); (case side4 => exact (Kd.S_reads' HO108.out).2.1); rintro e w22 ⟨v111, rfl, ho0, hb⟩; refine ⟨_, rfl, ?_⟩; have n0_ := Aside0.mk (Kd.S_elder' (by (with_reducible repeat (first | apply Kd.S_alloc | apply Kd.S_drewN | apply Kd.S_drew)); exact HO105.out) (Kd.R_base ho0) hb); have n1_ := Aside0.mk (Kd.S_elder' (by (with_reducible repeat (first | apply Kd.S_alloc | apply Kd.S_drewN | apply Kd.S_drew)); exact HO108.out) (Kd.R_base ho0) hb); have n2_ := Aside0.mk (Kd.R_lower ho0 (below_size (by repeat (first | (with_reducible first | exact HB.out | apply below_alloc | apply pw_below_drewN | apply below_drew1) | exact HB.out)))); have n3_ := Aside0.mk (below_step (by repeat (first | (with_reducible first | exact HB.out | apply below_alloc | apply pw_below_drewN | apply below_drew1) | exact HB.out)) hb); clear HO105; clear HO108; clear HB; have HO105 := n0_; have HO108 := n1_; have HO112 := n2_; have HB := n3_; clear n0_ n1_ n2_ n3_; (try clear hb); (try clear hb2); (try clear hk); (try clear hi); (try clear ho0)) | ((with_reducible refine gate_callee (f := 19) rfl ?_); refine goesL_ (some 36) rfl rfl Try.func19 (by kernel_rfl) rfl #[.slice A0 l0.length c0] rfl (by (try simp only [List.map_toArray, List.map_cons, List.map_nil]); first | done | rfl | (simp only [List.length_drop, List.length_take]; rfl)) ?_; (with_reducible refine (laws_toFeatureS.calls k _ _ l0 t113 _ ?side1 ?side2 A14.out).mono ?_); (case side1 => repeat (first | exact (Kd.C_below HR0.out HB.out) | (with_reducible refine Kd.C_alloc ?_ _) | (with_reducible refine Kd.C_drewN ?_ _) | (with_reducible refine Kd.C_drew ?_))); (case side2 => exact HC0.out); rintro e w23 ⟨v114, rfl, ho0, hb⟩; refine ⟨_, rfl, ?_⟩; obtain ⟨BxHO115, hBxHO115⟩ := RPW.ivB hb; have n0_ := Aside0.mk (Kd.S_mono (ok' := fun k_ => (BxHO105 ≤ k_ ∧ k_ < BxHO108 ∧ k_ < BxHO115) ∧ some k_ ≠ (.slice Ao21 t106.length co21 : Value).ownBlock ∧ some k_ ≠ (v111 : Value).ownBlock ∧ some k_ ≠ (v114 : Value).ownBlock) (Kd.S_old (HO105.out) hb) (fun k_ hk_ => ⟨(by have h1_ := hk_.1.1.1; have h2_ := hk_.2; omega), hk_.1.1.2, hk_.1.2, fun e_ => Nat.not_le.2 hk_.2 (Kd.S_base ho0 k_ e_.symm)⟩)); have n1_ := Aside0.mk (Kd.S_mono (ok' := fun k_ => (BxHO108 ≤ k_ ∧ k_ < BxHO115) ∧ some k_ ≠ (.slice Ao20 t103.length co20 : Value).ownBlock ∧ some k_ ≠ (v111 : Value).ownBlock ∧ some k_ ≠ (v114 : Value).ownBlock) (Kd.S_old (HO108.out) hb) (fun k_ hk_ => ⟨(by have h1_ := hk_.1.1.1; have h2_ := hk_.2; omega), hk_.1.1.2, hk_.1.2, fun e_ => Nat.not_le.2 hk_.2 (Kd.S_base ho0 k_ e_.symm)⟩)); have n2_ := Aside0.mk (Kd.R_below (by (with_reducible repeat (first | apply Kd.R_alloc | apply Kd.R_drewN | apply Kd.R_drew)); exact HO112.out) hb); have n3_ := Aside0.mk (Kd.S_lower (Kd.S_mono (ok' := fun k_ => (BxHO115 ≤ k_) ∧ some k_ ≠ (.slice Ao20 t103.length co20 : Value).ownBlock ∧ some k_ ≠ (.slice Ao21 t106.length co21 : Value).ownBlock ∧ some k_ ≠ (v111 : Value).ownBlock) (Kd.S_bound ho0) (fun k_ hk_ => ⟨(by have h1_ := hk_.2.1; omega), (Kd.fresh' (Kd.S_lt (by (with_reducible repeat (first | apply Kd.S_alloc | apply Kd.S_drewN | apply Kd.S_drew)); exact HO105.out)) k_ hk_.2.1), (Kd.fresh' (Kd.S_lt (by (with_reducible repeat (first | apply Kd.S_alloc | apply Kd.S_drewN | apply Kd.S_drew)); exact HO108.out)) k_ hk_.2.1), (Kd.fresh' (Kd.R_lt (by (with_reducible repeat (first | apply Kd.R_alloc | apply Kd.R_drewN | apply Kd.R_drew)); exact HO112.out)) k_ hk_.2.1)⟩)) (below_size (by repeat (first | (with_reducible first | exact HB.out | apply below_alloc | apply pw_below_drewN | apply below_drew1) | exact HB.out)))); have n4_ := Aside0.mk (below_step (by repeat (first | (with_reducible first | exact HB.out | apply below_alloc | apply pw_below_drewN | apply below_drew1) | exact HB.out)) hb); clear HO105; clear HO108; clear HO112; clear HB; have HO105 := n0_; have HO108 := n1_; have HO112 := n2_; have HO115 := n3_; have HB := n4_; clear n0_ n1_ n2_ n3_ n4_; (try clear hb); (try clear hb2); (try clear hk); (try clear hi); (try clear ho0)) | ((with_reducible refine gate_callee (f := 19) rfl ?_); refine goesL_ (some 38) rfl rfl Try.func19 (by kernel_rfl) rfl #[.slice A1 l1.length c1] rfl (by (try simp only [List.map_toArray, List.map_cons, List.map_nil]); first | done | rfl | (simp only [List.length_drop, List.length_take]; rfl)) ?_; (with_reducible refine (laws_toFeatureS.calls k _ _ l1 t116 _ ?side1 ?side2 A15.out).mono ?_); (case side1 => repeat (first | exact (Kd.C_below HR1.out HB.out) | (with_reducible refine Kd.C_alloc ?_ _) | (with_reducible refine Kd.C_drewN ?_ _) | (with_reducible refine Kd.C_drew ?_))); (case side2 => exact HC1.out); rintro e w24 ⟨v117, rfl, ho0, hb⟩; refine ⟨_, rfl, ?_⟩; obtain ⟨BxHO118, hBxHO118⟩ := RPW.ivB hb; have n0_ := Aside0.mk (Kd.S_mono (ok' := fun k_ => (BxHO105 ≤ k_ ∧ k_ < BxHO108 ∧ k_ < BxHO115 ∧ k_ < BxHO118) ∧ some k_ ≠ (.slice Ao21 t106.length co21 : Value).ownBlock ∧ some k_ ≠ (v111 : Value).ownBlock ∧ some k_ ≠ (v114 : Value).ownBlock ∧ some k_ ≠ (v117 : Value).ownBlock) (Kd.S_old (HO105.out) hb) (fun k_ hk_ => ⟨(by have h1_ := hk_.1.1; have h2_ := hk_.2; omega), hk_.1.2.1, hk_.1.2.2.1, hk_.1.2.2.2, fun e_ => Nat.not_le.2 hk_.2 (Kd.S_base ho0 k_ e_.symm)⟩)); have n1_ := Aside0.mk (Kd.S_mono (ok' := fun k_ => (BxHO108 ≤ k_ ∧ k_ < BxHO115 ∧ k_ < BxHO118) ∧ some k_ ≠ (.slice Ao20 t103.length co20 : Value).ownBlock ∧ some k_ ≠ (v111 : Value).ownBlock ∧ some k_ ≠ (v114 : Value).ownBlock ∧ some k_ ≠ (v117 : Value).ownBlock) (Kd.S_old (HO108.out) hb) (fun k_ hk_ => ⟨(by have h1_ := hk_.1.1; have h2_ := hk_.2; omega), hk_.1.2.1, hk_.1.2.2.1, hk_.1.2.2.2, fun e_ => Nat.not_le.2 hk_.2 (Kd.S_base ho0 k_ e_.symm)⟩)); have n2_ := Aside0.mk (Kd.R_below (by (with_reducible repeat (first | apply Kd.R_alloc | apply Kd.R_drewN | apply Kd.R_drew)); exact HO112.out) hb); have n3_ := Aside0.mk (Kd.S_mono (ok' := fun k_ => (BxHO115 ≤ k_ ∧ k_ < BxHO118) ∧ some k_ ≠ (.slice Ao20 t103.length co20 : Value).ownBlock ∧ some k_ ≠ (.slice Ao21 t106.length co21 : Value).ownBlock ∧ some k_ ≠ (v111 : Value).ownBlock ∧ some k_ ≠ (v117 : Value).ownBlock) (Kd.S_old (HO115.out) hb) (fun k_ hk_ => ⟨(by have h1_ := hk_.1.1; have h2_ := hk_.2; omega), hk_.1.2.1, hk_.1.2.2.1, hk_.1.2.2.2, fun e_ => Nat.not_le.2 hk_.2 (Kd.S_base ho0 k_ e_.symm)⟩)); have n4_ := Aside0.mk (Kd.S_lower (Kd.S_mono (ok' := fun k_ => (BxHO118 ≤ k_) ∧ some k_ ≠ (.slice Ao20 t103.length co20 : Value).ownBlock ∧ some k_ ≠ (.slice Ao21 t106.length co21 : Value).ownBlock ∧ some k_ ≠ (v111 : Value).ownBlock ∧ some k_ ≠ (v114 : Value).ownBlock) (Kd.S_bound ho0) (fun k_ hk_ => ⟨(by have h1_ := hk_.2.1; omega), (Kd.fresh' (Kd.S_lt (by (with_reducible repeat (first | apply Kd.S_alloc | apply Kd.S_drewN | apply Kd.S_drew)); exact HO105.out)) k_ hk_.2.1), (Kd.fresh' (Kd.S_lt (by (with_reducible repeat (first | apply Kd.S_alloc | apply Kd.S_drewN | apply Kd.S_drew)); exact HO108.out)) k_ hk_.2.1), (Kd.fresh' (Kd.R_lt (by (with_reducible repeat (first | apply Kd.R_alloc | apply Kd.R_drewN | apply Kd.R_drew)); exact HO112.out)) k_ hk_.2.1), (Kd.fresh' (Kd.S_lt (by (with_reducible repeat (first | apply Kd.S_alloc | apply Kd.S_drewN | apply Kd.S_drew)); exact HO115.out)) k_ hk_.2.1)⟩)) (below_size (by repeat (first | (with_reducible first | exact HB.out | apply below_alloc | apply pw_below_drewN | apply below_drew1) | exact HB.out)))); have n5_ := Aside0.mk (below_step (by repeat (first | (with_reducible first | exact HB.out | apply below_alloc | apply pw_below_drewN | apply below_drew1) | exact HB.out)) hb); clear HO105; clear HO108; clear HO112; clear HO115; clear HB; have HO105 := n0_; have HO108 := n1_; have HO112 := n2_; have HO115 := n3_; have HO118 := n4_; have HB := n5_; clear n0_ n1_ n2_ n3_ n4_ n5_; (try clear hb); (try clear hb2); (try clear hk); (try clear hi); (try clear ho0); obtain ⟨Ao25, co25, eo25⟩ := Kd.S_slice HO115.out; subst eo25; obtain ⟨Ao26, co26, eo26⟩ := Kd.S_slice HO118.out; subst eo26) | ((with_reducible refine gate_callee (f := 48) rfl ?_); refine goesL_ (some 42) rfl rfl Try.func48 (by kernel_rfl) rfl #[.slice Ao25 t113.length co25, .slice Ao26 t116.length co26] rfl (by (try simp only [List.map_toArray, List.map_cons, List.map_nil]); first | done | rfl | (simp only [List.length_drop, List.length_take]; rfl)) ?_; (with_reducible refine (impl_GreedyMatches.calls k _ _ t113 _ _ t116 t119 t120 _ ?side1 ?side2 ?side3 ?side4 A16.out).mono ?_); (case side1 => repeat (first | exact (Kd.S_reads' HO115.out).2.2 | (with_reducible refine Kd.C_alloc ?_ _) | (with_reducible refine Kd.C_drewN ?_ _) | (with_reducible refine Kd.C_drew ?_))); (case side2 => exact (Kd.S_reads' HO115.out).2.1); (case side3 => repeat (first | exact (Kd.S_reads' HO118.out).2.2 | (with_reducible refine Kd.C_alloc ?_ _) | (with_reducible refine Kd.C_drewN ?_ _) | (with_reducible refine Kd.C_drew ?_))); (case side4 => exact (Kd.S_reads' HO118.out).2.1); rintro e w27 ⟨v121, rfl, ho0, hb⟩; refine ⟨_, rfl, ?_⟩; have n0_ := Aside0.mk (Kd.S_elder' (by (with_reducible repeat (first | apply Kd.S_alloc | apply Kd.S_drewN | apply Kd.S_drew)); exact HO105.out) (Kd.R_base ho0) hb); have n1_ := Aside0.mk (Kd.S_elder' (by (with_reducible repeat (first | apply Kd.S_alloc | apply Kd.S_drewN | apply Kd.S_drew)); exact HO108.out) (Kd.R_base ho0) hb); have n2_ := Aside0.mk (Kd.R_elder' (by (with_reducible repeat (first | apply Kd.R_alloc | apply Kd.R_drewN | apply Kd.R_drew)); exact HO112.out) (Kd.R_base ho0) hb); have n3_ := Aside0.mk (Kd.S_elder' (by (with_reducible repeat (first | apply Kd.S_alloc | apply Kd.S_drewN | apply Kd.S_drew)); exact HO115.out) (Kd.R_base ho0) hb); have n4_ := Aside0.mk (Kd.S_elder' (by (with_reducible repeat (first | apply Kd.S_alloc | apply Kd.S_drewN | apply Kd.S_drew)); exact HO118.out) (Kd.R_base ho0) hb); have n5_ := Aside0.mk (Kd.R_lower (Kd.R_new' ho0 (Kd.R_lt (by (with_reducible repeat (first | apply Kd.R_alloc | apply Kd.R_drewN | apply Kd.R_drew)); exact HO112.out))) (below_size (by repeat (first | (with_reducible first | exact HB.out | apply below_alloc | apply pw_below_drewN | apply below_drew1) | exact HB.out)))); have n6_ := Aside0.mk (below_step (by repeat (first | (with_reducible first | exact HB.out | apply below_alloc | apply pw_below_drewN | apply below_drew1) | exact HB.out)) hb); clear HO105; clear HO108; clear HO112; clear HO115; clear HO118; clear HB; have HO105 := n0_; have HO108 := n1_; have HO112 := n2_; have HO115 := n3_; have HO118 := n4_; have HO122 := n5_; have HB := n6_; clear n0_ n1_ n2_ n3_ n4_ n5_ n6_; (try clear hb); (try clear hb2); (try clear hk); (try clear hi); (try clear ho0)))
      (try simp only [Act.put, List.setIfInBounds_toArray, List.set_cons_zero, List.set_cons_succ])
      go_cut [53] (fun v53 wc => ∃ (kq : Nat) (x53_16 : Bool), v53 = .bool x53_16 ∧ Aside0 (laws_FnExactGreedyMatches.j0 kq l0 l1 t109 t110 t113 t116 t119 t120 x53_16 = some r) ∧ Aside0 (kq ≤ k) ∧ Aside0 (Kd.R (Kd.int .i64) 2 wc w.heap.size (fun k_ => some k_ ≠ (v121 : Value).ownBlock) v111 t109) ∧ Aside0 (Kd.S k28 28 wc w.heap.size (fun k_ => (BxHO115 ≤ k_ ∧ k_ < BxHO118) ∧ some k_ ≠ (v111 : Value).ownBlock ∧ some k_ ≠ ((.slice Ao26 t116.length co26) : Value).ownBlock ∧ some k_ ≠ (v121 : Value).ownBlock) (.slice Ao25 t113.length co25) t113) ∧ Aside0 (Kd.S k28 28 wc w.heap.size (fun k_ => (BxHO118 ≤ k_) ∧ some k_ ≠ (v111 : Value).ownBlock ∧ some k_ ≠ ((.slice Ao25 t113.length co25) : Value).ownBlock ∧ some k_ ≠ (v121 : Value).ownBlock) (.slice Ao26 t116.length co26) t116) ∧ Aside0 (Kd.R (Kd.int .i64) 2 wc w.heap.size (fun k_ => some k_ ≠ (v111 : Value).ownBlock) v121 t119) ∧ Aside0 (Below w.heap.size w wc))
      case first =>
        have H := HC17.out
        clear HC17
        replace H := Option.bind_eq_some_iff.mp H
        obtain ⟨t123, A280, H⟩ := H
        replace H : (if t123 = true then (laws_FnExactGreedyMatches.j0 k l0 l1 t109 t110 t113 t116 t119 t120 (t120 != t110)) else (laws_FnExactGreedyMatches.j0 k l0 l1 t109 t110 t113 t116 t119 t120 true)) = some r := H
        have A28 := Aside0.mk A280
        clear A280
        by_cases c29 : t123 = true
        · subst c29
          have H1 : (laws_FnExactGreedyMatches.j0 k l0 l1 t109 t110 t113 t116 t119 t120 (t120 != t110)) = some r := by rw [if_pos rfl] at H; exact H
          clear H
          have H := H1
          clear H1
          have H' := Aside0.mk H
          clear H
          obtain ⟨Ao30, co30, eo30⟩ := Kd.R_slice HO122.out
          subst eo30
          obtain ⟨Ao31, co31, eo31⟩ := Kd.R_slice HO112.out
          subst eo31
          go_wp2_with (first | ((with_reducible refine gate_callee (f := 31) rfl ?_); refine goesL_ (some 47) rfl rfl Try.func31 (by kernel_rfl) rfl #[.slice Ao30 t119.length co30, .slice Ao31 t109.length co31] rfl (by (try simp only [List.map_toArray, List.map_cons, List.map_nil]); first | done | rfl | (simp only [List.length_drop, List.length_take]; rfl)) ?_; (with_reducible refine (laws_eqInt64S.calls k _ _ t119 _ _ t109 true _ ?side1 ?side2 ?side3 ?side4 A28.out).mono ?_); (case side1 => repeat (first | exact (Kd.R_reads' HO122.out).2.2 | (with_reducible refine Kd.C_alloc ?_ _) | (with_reducible refine Kd.C_drewN ?_ _) | (with_reducible refine Kd.C_drew ?_))); (case side2 => exact (Kd.R_reads' HO122.out).2.1); (case side3 => repeat (first | exact (Kd.R_reads' HO112.out).2.2 | (with_reducible refine Kd.C_alloc ?_ _) | (with_reducible refine Kd.C_drewN ?_ _) | (with_reducible refine Kd.C_drew ?_))); (case side4 => exact (Kd.R_reads' HO112.out).2.1); rintro e w' ⟨rfl, ⟨nd, rfl⟩⟩; refine ⟨_, rfl, ?_⟩; (try (rw [drewN_self w27]; generalize hq_ : World.drewN w27 _ = w27; have n0_ : Aside0 (Kd.S k28 28 w27 w.heap.size (fun k_ => (((BxHO105 ≤ k_ ∧ k_ < BxHO108 ∧ k_ < BxHO115 ∧ k_ < BxHO118) ∧ (some k_ ≠ (.slice Ao21 t106.length co21 : Value).ownBlock ∧ (some k_ ≠ (.slice Ao31 t109.length co31 : Value).ownBlock ∧ (some k_ ≠ (.slice Ao25 t113.length co25 : Value).ownBlock ∧ some k_ ≠ (.slice Ao26 t116.length co26 : Value).ownBlock)))) ∧ some k_ ≠ (.slice Ao30 t119.length co30 : Value).ownBlock)) (.slice Ao20 t103.length co20) t103) := ⟨by rw [← hq_]; exact (by (with_reducible repeat (first | apply Kd.S_alloc | apply Kd.S_drewN | apply Kd.S_drew)); exact HO105.out)⟩; have n1_ : Aside0 (Kd.S k28 28 w27 w.heap.size (fun k_ => (((BxHO108 ≤ k_ ∧ k_ < BxHO115 ∧ k_ < BxHO118) ∧ (some k_ ≠ (.slice Ao20 t103.length co20 : Value).ownBlock ∧ (some k_ ≠ (.slice Ao31 t109.length co31 : Value).ownBlock ∧ (some k_ ≠ (.slice Ao25 t113.length co25 : Value).ownBlock ∧ some k_ ≠ (.slice Ao26 t116.length co26 : Value).ownBlock)))) ∧ some k_ ≠ (.slice Ao30 t119.length co30 : Value).ownBlock)) (.slice Ao21 t106.length co21) t106) := ⟨by rw [← hq_]; exact (by (with_reducible repeat (first | apply Kd.S_alloc | apply Kd.S_drewN | apply Kd.S_drew)); exact HO108.out)⟩; have n2_ : Aside0 (Kd.R (Kd.int .i64) 2 w27 w.heap.size (fun k_ => (True ∧ some k_ ≠ (.slice Ao30 t119.length co30 : Value).ownBlock)) (.slice Ao31 t109.length co31) t109) := ⟨by rw [← hq_]; exact (by (with_reducible repeat (first | apply Kd.R_alloc | apply Kd.R_drewN | apply Kd.R_drew)); exact HO112.out)⟩; have n3_ : Aside0 (Kd.S k28 28 w27 w.heap.size (fun k_ => (((BxHO115 ≤ k_ ∧ k_ < BxHO118) ∧ (some k_ ≠ (.slice Ao20 t103.length co20 : Value).ownBlock ∧ (some k_ ≠ (.slice Ao21 t106.length co21 : Value).ownBlock ∧ (some k_ ≠ (.slice Ao31 t109.length co31 : Value).ownBlock ∧ some k_ ≠ (.slice Ao26 t116.length co26 : Value).ownBlock)))) ∧ some k_ ≠ (.slice Ao30 t119.length co30 : Value).ownBlock)) (.slice Ao25 t113.length co25) t113) := ⟨by rw [← hq_]; exact (by (with_reducible repeat (first | apply Kd.S_alloc | apply Kd.S_drewN | apply Kd.S_drew)); exact HO115.out)⟩; have n4_ : Aside0 (Kd.S k28 28 w27 w.heap.size (fun k_ => (((BxHO118 ≤ k_) ∧ (some k_ ≠ (.slice Ao20 t103.length co20 : Value).ownBlock ∧ (some k_ ≠ (.slice Ao21 t106.length co21 : Value).ownBlock ∧ (some k_ ≠ (.slice Ao31 t109.length co31 : Value).ownBlock ∧ some k_ ≠ (.slice Ao25 t113.length co25 : Value).ownBlock)))) ∧ some k_ ≠ (.slice Ao30 t119.length co30 : Value).ownBlock)) (.slice Ao26 t116.length co26) t116) := ⟨by rw [← hq_]; exact (by (with_reducible repeat (first | apply Kd.S_alloc | apply Kd.S_drewN | apply Kd.S_drew)); exact HO118.out)⟩; have n5_ : Aside0 (Kd.R (Kd.int .i64) 2 w27 w.heap.size (fun k_ => (True ∧ some k_ ≠ (.slice Ao31 t109.length co31 : Value).ownBlock)) (.slice Ao30 t119.length co30) t119) := ⟨by rw [← hq_]; exact (by (with_reducible repeat (first | apply Kd.R_alloc | apply Kd.R_drewN | apply Kd.R_drew)); exact HO122.out)⟩; have n6_ : Aside0 (Below w.heap.size w w27) := ⟨by rw [← hq_]; exact (by repeat (first | (with_reducible first | exact HB.out | apply below_alloc | apply pw_below_drewN | apply below_drew1) | exact HB.out))⟩; clear HO105 HO108 HO112 HO115 HO118 HO122 HB hq_; have HO105 := n0_; have HO108 := n1_; have HO112 := n2_; have HO115 := n3_; have HO118 := n4_; have HO122 := n5_; have HB := n6_; clear n0_ n1_ n2_ n3_ n4_ n5_ n6_))))
          go_meet
          case rel => exact ⟨_, ((t120 != t110)), (by first | rfl | (simp; done) | (simp [*]; done)), H', ⟨by first | omega | exact Nat.le_refl _⟩, ⟨by (with_reducible repeat (first | apply Kd.R_alloc | apply Kd.R_drewN | apply Kd.R_drew)); exact Kd.R_mono HO112.out (fun _ hk => hk.2)⟩, ⟨by (with_reducible repeat (first | apply Kd.S_alloc | apply Kd.S_drewN | apply Kd.S_drew)); exact Kd.S_mono HO115.out (fun _ hk => ⟨(by have h_ := hk.1.1; omega), ⟨hk.1.2.2.2.1, ⟨hk.1.2.2.2.2, hk.2⟩⟩⟩)⟩, ⟨by (with_reducible repeat (first | apply Kd.S_alloc | apply Kd.S_drewN | apply Kd.S_drew)); exact Kd.S_mono HO118.out (fun _ hk => ⟨(by have h_ := hk.1.1; omega), ⟨hk.1.2.2.2.1, ⟨hk.1.2.2.2.2, hk.2⟩⟩⟩)⟩, ⟨by (with_reducible repeat (first | apply Kd.R_alloc | apply Kd.R_drewN | apply Kd.R_drew)); exact Kd.R_mono HO122.out (fun _ hk => hk.2)⟩, ⟨by repeat (first | (with_reducible first | exact HB.out | apply below_alloc | apply pw_below_drewN | apply below_drew1) | exact HB.out)⟩⟩
        · replace c29 := Bool.eq_false_iff.mpr c29
          subst c29
          have H1 : (laws_FnExactGreedyMatches.j0 k l0 l1 t109 t110 t113 t116 t119 t120 true) = some r := by rw [if_neg (show ¬ (false = true) by decide)] at H; exact H
          clear H
          have H := H1
          clear H1
          have H' := Aside0.mk H
          clear H
          obtain ⟨Ao32, co32, eo32⟩ := Kd.R_slice HO122.out
          subst eo32
          obtain ⟨Ao33, co33, eo33⟩ := Kd.R_slice HO112.out
          subst eo33
          go_wp2_with (first | ((with_reducible refine gate_callee (f := 31) rfl ?_); refine goesL_ (some 47) rfl rfl Try.func31 (by kernel_rfl) rfl #[.slice Ao32 t119.length co32, .slice Ao33 t109.length co33] rfl (by (try simp only [List.map_toArray, List.map_cons, List.map_nil]); first | done | rfl | (simp only [List.length_drop, List.length_take]; rfl)) ?_; (with_reducible refine (laws_eqInt64S.calls k _ _ t119 _ _ t109 false _ ?side1 ?side2 ?side3 ?side4 A28.out).mono ?_); (case side1 => repeat (first | exact (Kd.R_reads' HO122.out).2.2 | (with_reducible refine Kd.C_alloc ?_ _) | (with_reducible refine Kd.C_drewN ?_ _) | (with_reducible refine Kd.C_drew ?_))); (case side2 => exact (Kd.R_reads' HO122.out).2.1); (case side3 => repeat (first | exact (Kd.R_reads' HO112.out).2.2 | (with_reducible refine Kd.C_alloc ?_ _) | (with_reducible refine Kd.C_drewN ?_ _) | (with_reducible refine Kd.C_drew ?_))); (case side4 => exact (Kd.R_reads' HO112.out).2.1); rintro e w' ⟨rfl, ⟨nd, rfl⟩⟩; refine ⟨_, rfl, ?_⟩; (try (rw [drewN_self w27]; generalize hq_ : World.drewN w27 _ = w27; have n0_ : Aside0 (Kd.S k28 28 w27 w.heap.size (fun k_ => (((BxHO105 ≤ k_ ∧ k_ < BxHO108 ∧ k_ < BxHO115 ∧ k_ < BxHO118) ∧ (some k_ ≠ (.slice Ao21 t106.length co21 : Value).ownBlock ∧ (some k_ ≠ (.slice Ao33 t109.length co33 : Value).ownBlock ∧ (some k_ ≠ (.slice Ao25 t113.length co25 : Value).ownBlock ∧ some k_ ≠ (.slice Ao26 t116.length co26 : Value).ownBlock)))) ∧ some k_ ≠ (.slice Ao32 t119.length co32 : Value).ownBlock)) (.slice Ao20 t103.length co20) t103) := ⟨by rw [← hq_]; exact (by (with_reducible repeat (first | apply Kd.S_alloc | apply Kd.S_drewN | apply Kd.S_drew)); exact HO105.out)⟩; have n1_ : Aside0 (Kd.S k28 28 w27 w.heap.size (fun k_ => (((BxHO108 ≤ k_ ∧ k_ < BxHO115 ∧ k_ < BxHO118) ∧ (some k_ ≠ (.slice Ao20 t103.length co20 : Value).ownBlock ∧ (some k_ ≠ (.slice Ao33 t109.length co33 : Value).ownBlock ∧ (some k_ ≠ (.slice Ao25 t113.length co25 : Value).ownBlock ∧ some k_ ≠ (.slice Ao26 t116.length co26 : Value).ownBlock)))) ∧ some k_ ≠ (.slice Ao32 t119.length co32 : Value).ownBlock)) (.slice Ao21 t106.length co21) t106) := ⟨by rw [← hq_]; exact (by (with_reducible repeat (first | apply Kd.S_alloc | apply Kd.S_drewN | apply Kd.S_drew)); exact HO108.out)⟩; have n2_ : Aside0 (Kd.R (Kd.int .i64) 2 w27 w.heap.size (fun k_ => (True ∧ some k_ ≠ (.slice Ao32 t119.length co32 : Value).ownBlock)) (.slice Ao33 t109.length co33) t109) := ⟨by rw [← hq_]; exact (by (with_reducible repeat (first | apply Kd.R_alloc | apply Kd.R_drewN | apply Kd.R_drew)); exact HO112.out)⟩; have n3_ : Aside0 (Kd.S k28 28 w27 w.heap.size (fun k_ => (((BxHO115 ≤ k_ ∧ k_ < BxHO118) ∧ (some k_ ≠ (.slice Ao20 t103.length co20 : Value).ownBlock ∧ (some k_ ≠ (.slice Ao21 t106.length co21 : Value).ownBlock ∧ (some k_ ≠ (.slice Ao33 t109.length co33 : Value).ownBlock ∧ some k_ ≠ (.slice Ao26 t116.length co26 : Value).ownBlock)))) ∧ some k_ ≠ (.slice Ao32 t119.length co32 : Value).ownBlock)) (.slice Ao25 t113.length co25) t113) := ⟨by rw [← hq_]; exact (by (with_reducible repeat (first | apply Kd.S_alloc | apply Kd.S_drewN | apply Kd.S_drew)); exact HO115.out)⟩; have n4_ : Aside0 (Kd.S k28 28 w27 w.heap.size (fun k_ => (((BxHO118 ≤ k_) ∧ (some k_ ≠ (.slice Ao20 t103.length co20 : Value).ownBlock ∧ (some k_ ≠ (.slice Ao21 t106.length co21 : Value).ownBlock ∧ (some k_ ≠ (.slice Ao33 t109.length co33 : Value).ownBlock ∧ some k_ ≠ (.slice Ao25 t113.length co25 : Value).ownBlock)))) ∧ some k_ ≠ (.slice Ao32 t119.length co32 : Value).ownBlock)) (.slice Ao26 t116.length co26) t116) := ⟨by rw [← hq_]; exact (by (with_reducible repeat (first | apply Kd.S_alloc | apply Kd.S_drewN | apply Kd.S_drew)); exact HO118.out)⟩; have n5_ : Aside0 (Kd.R (Kd.int .i64) 2 w27 w.heap.size (fun k_ => (True ∧ some k_ ≠ (.slice Ao33 t109.length co33 : Value).ownBlock)) (.slice Ao32 t119.length co32) t119) := ⟨by rw [← hq_]; exact (by (with_reducible repeat (first | apply Kd.R_alloc | apply Kd.R_drewN | apply Kd.R_drew)); exact HO122.out)⟩; have n6_ : Aside0 (Below w.heap.size w w27) := ⟨by rw [← hq_]; exact (by repeat (first | (with_reducible first | exact HB.out | apply below_alloc | apply pw_below_drewN | apply below_drew1) | exact HB.out))⟩; clear HO105 HO108 HO112 HO115 HO118 HO122 HB hq_; have HO105 := n0_; have HO108 := n1_; have HO112 := n2_; have HO115 := n3_; have HO118 := n4_; have HO122 := n5_; have HB := n6_; clear n0_ n1_ n2_ n3_ n4_ n5_ n6_))))
          go_meet
          case rel => exact ⟨_, (true), (by first | rfl | (simp; done) | (simp [*]; done)), H', ⟨by first | omega | exact Nat.le_refl _⟩, ⟨by (with_reducible repeat (first | apply Kd.R_alloc | apply Kd.R_drewN | apply Kd.R_drew)); exact Kd.R_mono HO112.out (fun _ hk => hk.2)⟩, ⟨by (with_reducible repeat (first | apply Kd.S_alloc | apply Kd.S_drewN | apply Kd.S_drew)); exact Kd.S_mono HO115.out (fun _ hk => ⟨(by have h_ := hk.1.1; omega), ⟨hk.1.2.2.2.1, ⟨hk.1.2.2.2.2, hk.2⟩⟩⟩)⟩, ⟨by (with_reducible repeat (first | apply Kd.S_alloc | apply Kd.S_drewN | apply Kd.S_drew)); exact Kd.S_mono HO118.out (fun _ hk => ⟨(by have h_ := hk.1.1; omega), ⟨hk.1.2.2.2.1, ⟨hk.1.2.2.2.2, hk.2⟩⟩⟩)⟩, ⟨by (with_reducible repeat (first | apply Kd.R_alloc | apply Kd.R_drewN | apply Kd.R_drew)); exact Kd.R_mono HO122.out (fun _ hk => hk.2)⟩, ⟨by repeat (first | (with_reducible first | exact HB.out | apply below_alloc | apply pw_below_drewN | apply below_drew1) | exact HB.out)⟩⟩
      case rest =>
        clear HC17
        try clear c1
        try clear c2
        try clear p2
        try clear c3
        try clear c4
        try clear c6
        try clear c6b0
        try clear c6b1
        try clear c6b2
        try clear c10
        try clear c10b0
        try clear c10b1
        try clear c10b2
        try clear c11
        try clear c17
        try clear c19
        try clear c29
        try clear c31
        obtain ⟨kq, x53_16, rfl, HA, HJ16, HO_6, HO_8, HO_9, HO_10, HB⟩ := hcut
        cases kq with
        | zero => exact absurd HA.out (by simp [laws_FnExactGreedyMatches.j0])
        | succ kj16 =>
          have H := HA.out
          clear HA
          simp only [laws_FnExactGreedyMatches.j0] at H
          by_cases c34 : x53_16 = true
          · subst c34
            have H1 : (some false) = some r := by rw [if_pos rfl] at H; exact H
            clear H
            have H := H1
            clear H1
            obtain rfl := Option.some.inj H
            go_wp2
            go_ret
            exact ⟨by first | rfl | (simp [errW_none, errW_some] <;> rfl) | (simp [*, errW_none, errW_some] <;> rfl), by repeat (first | (with_reducible first | exact HB.out | apply below_alloc | apply pw_below_drewN | apply below_drew1) | exact HB.out)⟩
          · replace c34 := Bool.eq_false_iff.mpr c34
            subst c34
            have H1 : ((laws_toFeatureS.f kj16 l0).bind fun t124 => ((laws_eqFeatureS.f kj16 t113 t124).bind fun t127 => (if t127 = true then ((laws_toFeatureS.f kj16 l1).bind fun t128 => ((laws_eqFeatureS.f kj16 t116 t128).bind fun t131 => (if t131 = true then ((laws_markFeatureS.f kj16 t113 1).bind fun bt132 => ((laws_markFeatureS.f kj16 t116 bt132.1).bind fun bt134 => (if bt134.1 < 0 then (laws_FnExactGreedyMatches.j1 kj16 l0 l1 t109 t110 t119 true) else ((laws_eqInt64S.f kj16 t119 t109).bind fun t136 => (if t136 = true then (laws_FnExactGreedyMatches.j1 kj16 l0 l1 t109 t110 t119 (t120 != t110)) else (laws_FnExactGreedyMatches.j1 kj16 l0 l1 t109 t110 t119 true)))))) else (some false)))) else (some false)))) = some r := by rw [if_neg (show ¬ (false = true) by decide)] at H; exact H
            clear H
            have H := H1
            clear H1
            replace H := Option.bind_eq_some_iff.mp H
            obtain ⟨t124, A350, H⟩ := H
            replace H : ((laws_eqFeatureS.f kj16 t113 t124).bind fun t127 => (if t127 = true then ((laws_toFeatureS.f kj16 l1).bind fun t128 => ((laws_eqFeatureS.f kj16 t116 t128).bind fun t131 => (if t131 = true then ((laws_markFeatureS.f kj16 t113 1).bind fun bt132 => ((laws_markFeatureS.f kj16 t116 bt132.1).bind fun bt134 => (if bt134.1 < 0 then (laws_FnExactGreedyMatches.j1 kj16 l0 l1 t109 t110 t119 true) else ((laws_eqInt64S.f kj16 t119 t109).bind fun t136 => (if t136 = true then (laws_FnExactGreedyMatches.j1 kj16 l0 l1 t109 t110 t119 (t120 != t110)) else (laws_FnExactGreedyMatches.j1 kj16 l0 l1 t109 t110 t119 true)))))) else (some false)))) else (some false))) = some r := H
            have A35 := Aside0.mk A350
            clear A350
            replace H := Option.bind_eq_some_iff.mp H
            obtain ⟨t127, A360, H⟩ := H
            replace H : (if t127 = true then ((laws_toFeatureS.f kj16 l1).bind fun t128 => ((laws_eqFeatureS.f kj16 t116 t128).bind fun t131 => (if t131 = true then ((laws_markFeatureS.f kj16 t113 1).bind fun bt132 => ((laws_markFeatureS.f kj16 t116 bt132.1).bind fun bt134 => (if bt134.1 < 0 then (laws_FnExactGreedyMatches.j1 kj16 l0 l1 t109 t110 t119 true) else ((laws_eqInt64S.f kj16 t119 t109).bind fun t136 => (if t136 = true then (laws_FnExactGreedyMatches.j1 kj16 l0 l1 t109 t110 t119 (t120 != t110)) else (laws_FnExactGreedyMatches.j1 kj16 l0 l1 t109 t110 t119 true)))))) else (some false)))) else (some false)) = some r := H
            have A36 := Aside0.mk A360
            clear A360
            have HC37 := Aside0.mk H
            clear H
            go_upto_if 58 with (first | ((with_reducible refine gate_callee (f := 19) rfl ?_); refine goesL_ (some 56) rfl rfl Try.func19 (by kernel_rfl) rfl #[.slice A0 l0.length c0] rfl (by (try simp only [List.map_toArray, List.map_cons, List.map_nil]); first | done | rfl | (simp only [List.length_drop, List.length_take]; rfl)) ?_; (with_reducible refine (laws_toFeatureS.calls kj16 _ _ l0 t124 _ ?side1 ?side2 A35.out).mono ?_); (case side1 => repeat (first | exact (Kd.C_below HR0.out (by repeat (first | (with_reducible first | exact HB.out | apply below_alloc | apply pw_below_drewN | apply below_drew1) | exact HB.out))) | (with_reducible refine Kd.C_alloc ?_ _) | (with_reducible refine Kd.C_drewN ?_ _) | (with_reducible refine Kd.C_drew ?_))); (case side2 => exact HC0.out); rintro e w38 ⟨v125, rfl, ho0, hb⟩; refine ⟨_, rfl, ?_⟩; obtain ⟨BxHO126, hBxHO126⟩ := RPW.ivB hb; have n0_ := Aside0.mk (Kd.R_below (by (with_reducible repeat (first | apply Kd.R_alloc | apply Kd.R_drewN | apply Kd.R_drew)); exact HO_6.out) hb); have n1_ := Aside0.mk (Kd.S_mono (ok' := fun k_ => (BxHO115 ≤ k_ ∧ k_ < BxHO118 ∧ k_ < BxHO126) ∧ some k_ ≠ (v111 : Value).ownBlock ∧ some k_ ≠ (.slice Ao26 t116.length co26 : Value).ownBlock ∧ some k_ ≠ (v121 : Value).ownBlock ∧ some k_ ≠ (v125 : Value).ownBlock) (Kd.S_old (HO_8.out) hb) (fun k_ hk_ => ⟨(by have h1_ := hk_.1.1; have h2_ := hk_.2; omega), hk_.1.2.1, hk_.1.2.2.1, hk_.1.2.2.2, fun e_ => Nat.not_le.2 hk_.2 (Kd.S_base ho0 k_ e_.symm)⟩)); have n2_ := Aside0.mk (Kd.S_mono (ok' := fun k_ => (BxHO118 ≤ k_ ∧ k_ < BxHO126) ∧ some k_ ≠ (v111 : Value).ownBlock ∧ some k_ ≠ (.slice Ao25 t113.length co25 : Value).ownBlock ∧ some k_ ≠ (v121 : Value).ownBlock ∧ some k_ ≠ (v125 : Value).ownBlock) (Kd.S_old (HO_9.out) hb) (fun k_ hk_ => ⟨(by have h1_ := hk_.1.1; have h2_ := hk_.2; omega), hk_.1.2.1, hk_.1.2.2.1, hk_.1.2.2.2, fun e_ => Nat.not_le.2 hk_.2 (Kd.S_base ho0 k_ e_.symm)⟩)); have n3_ := Aside0.mk (Kd.R_below (by (with_reducible repeat (first | apply Kd.R_alloc | apply Kd.R_drewN | apply Kd.R_drew)); exact HO_10.out) hb); have n4_ := Aside0.mk (Kd.S_lower (Kd.S_mono (ok' := fun k_ => (BxHO126 ≤ k_) ∧ some k_ ≠ (v111 : Value).ownBlock ∧ some k_ ≠ (.slice Ao25 t113.length co25 : Value).ownBlock ∧ some k_ ≠ (.slice Ao26 t116.length co26 : Value).ownBlock ∧ some k_ ≠ (v121 : Value).ownBlock) (Kd.S_bound ho0) (fun k_ hk_ => ⟨(by have h1_ := hk_.2.1; omega), (Kd.fresh' (Kd.R_lt (by (with_reducible repeat (first | apply Kd.R_alloc | apply Kd.R_drewN | apply Kd.R_drew)); exact HO_6.out)) k_ hk_.2.1), (Kd.fresh' (Kd.S_lt (by (with_reducible repeat (first | apply Kd.S_alloc | apply Kd.S_drewN | apply Kd.S_drew)); exact HO_8.out)) k_ hk_.2.1), (Kd.fresh' (Kd.S_lt (by (with_reducible repeat (first | apply Kd.S_alloc | apply Kd.S_drewN | apply Kd.S_drew)); exact HO_9.out)) k_ hk_.2.1), (Kd.fresh' (Kd.R_lt (by (with_reducible repeat (first | apply Kd.R_alloc | apply Kd.R_drewN | apply Kd.R_drew)); exact HO_10.out)) k_ hk_.2.1)⟩)) (below_size (by repeat (first | (with_reducible first | exact HB.out | apply below_alloc | apply pw_below_drewN | apply below_drew1) | exact HB.out)))); have n5_ := Aside0.mk (below_step (by repeat (first | (with_reducible first | exact HB.out | apply below_alloc | apply pw_below_drewN | apply below_drew1) | exact HB.out)) hb); clear HO_6; clear HO_8; clear HO_9; clear HO_10; clear HB; have HO_6 := n0_; have HO_8 := n1_; have HO_9 := n2_; have HO_10 := n3_; have HO126 := n4_; have HB := n5_; clear n0_ n1_ n2_ n3_ n4_ n5_; (try clear hb); (try clear hb2); (try clear hk); (try clear hi); (try clear ho0); obtain ⟨Ao39, co39, eo39⟩ := Kd.S_slice HO126.out; subst eo39) | ((with_reducible refine gate_callee (f := 21) rfl ?_); refine goesL_ (some 57) rfl rfl Try.func21 (by kernel_rfl) rfl #[.slice Ao25 t113.length co25, .slice Ao39 t124.length co39] rfl (by (try simp only [List.map_toArray, List.map_cons, List.map_nil]); first | done | rfl | (simp only [List.length_drop, List.length_take]; rfl)) ?_; (with_reducible refine (laws_eqFeatureS.calls kj16 _ _ t113 _ _ t124 t127 _ ?side1 ?side2 ?side3 ?side4 A36.out).mono ?_); (case side1 => repeat (first | exact (Kd.S_reads' HO_8.out).2.2 | (with_reducible refine Kd.C_alloc ?_ _) | (with_reducible refine Kd.C_drewN ?_ _) | (with_reducible refine Kd.C_drew ?_))); (case side2 => exact (Kd.S_reads' HO_8.out).2.1); (case side3 => repeat (first | exact (Kd.S_reads' HO126.out).2.2 | (with_reducible refine Kd.C_alloc ?_ _) | (with_reducible refine Kd.C_drewN ?_ _) | (with_reducible refine Kd.C_drew ?_))); (case side4 => exact (Kd.S_reads' HO126.out).2.1); rintro e w40 ⟨rfl, hb⟩; refine ⟨_, rfl, ?_⟩; have n0_ := Aside0.mk (Kd.R_below (by (with_reducible repeat (first | apply Kd.R_alloc | apply Kd.R_drewN | apply Kd.R_drew)); exact HO_6.out) hb); have n1_ := Aside0.mk (Kd.S_below (by (with_reducible repeat (first | apply Kd.S_alloc | apply Kd.S_drewN | apply Kd.S_drew)); exact HO_8.out) hb); have n2_ := Aside0.mk (Kd.S_below (by (with_reducible repeat (first | apply Kd.S_alloc | apply Kd.S_drewN | apply Kd.S_drew)); exact HO_9.out) hb); have n3_ := Aside0.mk (Kd.R_below (by (with_reducible repeat (first | apply Kd.R_alloc | apply Kd.R_drewN | apply Kd.R_drew)); exact HO_10.out) hb); have n4_ := Aside0.mk (Kd.S_below (by (with_reducible repeat (first | apply Kd.S_alloc | apply Kd.S_drewN | apply Kd.S_drew)); exact HO126.out) hb); have n5_ := Aside0.mk (below_step (by repeat (first | (with_reducible first | exact HB.out | apply below_alloc | apply pw_below_drewN | apply below_drew1) | exact HB.out)) hb); clear HO_6; clear HO_8; clear HO_9; clear HO_10; clear HO126; clear HB; have HO_6 := n0_; have HO_8 := n1_; have HO_9 := n2_; have HO_10 := n3_; have HO126 := n4_; have HB := n5_; clear n0_ n1_ n2_ n3_ n4_ n5_; (try clear hb); (try clear hb2); (try clear hk); (try clear hi)))
            (try simp only [Act.put, List.setIfInBounds_toArray, List.set_cons_zero, List.set_cons_succ])
            have H := HC37.out
            clear HC37
            by_cases c41 : t127 = true
            · subst c41
              have H1 : ((laws_toFeatureS.f kj16 l1).bind fun t128 => ((laws_eqFeatureS.f kj16 t116 t128).bind fun t131 => (if t131 = true then ((laws_markFeatureS.f kj16 t113 1).bind fun bt132 => ((laws_markFeatureS.f kj16 t116 bt132.1).bind fun bt134 => (if bt134.1 < 0 then (laws_FnExactGreedyMatches.j1 kj16 l0 l1 t109 t110 t119 true) else ((laws_eqInt64S.f kj16 t119 t109).bind fun t136 => (if t136 = true then (laws_FnExactGreedyMatches.j1 kj16 l0 l1 t109 t110 t119 (t120 != t110)) else (laws_FnExactGreedyMatches.j1 kj16 l0 l1 t109 t110 t119 true)))))) else (some false)))) = some r := by rw [if_pos rfl] at H; exact H
              clear H
              have H := H1
              clear H1
              replace H := Option.bind_eq_some_iff.mp H
              obtain ⟨t128, A420, H⟩ := H
              replace H : ((laws_eqFeatureS.f kj16 t116 t128).bind fun t131 => (if t131 = true then ((laws_markFeatureS.f kj16 t113 1).bind fun bt132 => ((laws_markFeatureS.f kj16 t116 bt132.1).bind fun bt134 => (if bt134.1 < 0 then (laws_FnExactGreedyMatches.j1 kj16 l0 l1 t109 t110 t119 true) else ((laws_eqInt64S.f kj16 t119 t109).bind fun t136 => (if t136 = true then (laws_FnExactGreedyMatches.j1 kj16 l0 l1 t109 t110 t119 (t120 != t110)) else (laws_FnExactGreedyMatches.j1 kj16 l0 l1 t109 t110 t119 true)))))) else (some false))) = some r := H
              have A42 := Aside0.mk A420
              clear A420
              replace H := Option.bind_eq_some_iff.mp H
              obtain ⟨t131, A430, H⟩ := H
              replace H : (if t131 = true then ((laws_markFeatureS.f kj16 t113 1).bind fun bt132 => ((laws_markFeatureS.f kj16 t116 bt132.1).bind fun bt134 => (if bt134.1 < 0 then (laws_FnExactGreedyMatches.j1 kj16 l0 l1 t109 t110 t119 true) else ((laws_eqInt64S.f kj16 t119 t109).bind fun t136 => (if t136 = true then (laws_FnExactGreedyMatches.j1 kj16 l0 l1 t109 t110 t119 (t120 != t110)) else (laws_FnExactGreedyMatches.j1 kj16 l0 l1 t109 t110 t119 true)))))) else (some false)) = some r := H
              have A43 := Aside0.mk A430
              clear A430
              have HC44 := Aside0.mk H
              clear H
              go_upto_if 63 with (first | ((with_reducible refine gate_callee (f := 19) rfl ?_); refine goesL_ (some 61) rfl rfl Try.func19 (by kernel_rfl) rfl #[.slice A1 l1.length c1] rfl (by (try simp only [List.map_toArray, List.map_cons, List.map_nil]); first | done | rfl | (simp only [List.length_drop, List.length_take]; rfl)) ?_; (with_reducible refine (laws_toFeatureS.calls kj16 _ _ l1 t128 _ ?side1 ?side2 A42.out).mono ?_); (case side1 => repeat (first | exact (Kd.C_below HR1.out (by repeat (first | (with_reducible first | exact HB.out | apply below_alloc | apply pw_below_drewN | apply below_drew1) | exact HB.out))) | (with_reducible refine Kd.C_alloc ?_ _) | (with_reducible refine Kd.C_drewN ?_ _) | (with_reducible refine Kd.C_drew ?_))); (case side2 => exact HC1.out); rintro e w45 ⟨v129, rfl, ho0, hb⟩; refine ⟨_, rfl, ?_⟩; obtain ⟨BxHO130, hBxHO130⟩ := RPW.ivB hb; have n0_ := Aside0.mk (Kd.R_below (by (with_reducible repeat (first | apply Kd.R_alloc | apply Kd.R_drewN | apply Kd.R_drew)); exact HO_6.out) hb); have n1_ := Aside0.mk (Kd.S_mono (ok' := fun k_ => (BxHO115 ≤ k_ ∧ k_ < BxHO118 ∧ k_ < BxHO126 ∧ k_ < BxHO130) ∧ some k_ ≠ (v111 : Value).ownBlock ∧ some k_ ≠ (.slice Ao26 t116.length co26 : Value).ownBlock ∧ some k_ ≠ (v121 : Value).ownBlock ∧ some k_ ≠ (.slice Ao39 t124.length co39 : Value).ownBlock ∧ some k_ ≠ (v129 : Value).ownBlock) (Kd.S_old (HO_8.out) hb) (fun k_ hk_ => ⟨(by have h1_ := hk_.1.1; have h2_ := hk_.2; omega), hk_.1.2.1, hk_.1.2.2.1, hk_.1.2.2.2.1, hk_.1.2.2.2.2, fun e_ => Nat.not_le.2 hk_.2 (Kd.S_base ho0 k_ e_.symm)⟩)); have n2_ := Aside0.mk (Kd.S_mono (ok' := fun k_ => (BxHO118 ≤ k_ ∧ k_ < BxHO126 ∧ k_ < BxHO130) ∧ some k_ ≠ (v111 : Value).ownBlock ∧ some k_ ≠ (.slice Ao25 t113.length co25 : Value).ownBlock ∧ some k_ ≠ (v121 : Value).ownBlock ∧ some k_ ≠ (.slice Ao39 t124.length co39 : Value).ownBlock ∧ some k_ ≠ (v129 : Value).ownBlock) (Kd.S_old (HO_9.out) hb) (fun k_ hk_ => ⟨(by have h1_ := hk_.1.1; have h2_ := hk_.2; omega), hk_.1.2.1, hk_.1.2.2.1, hk_.1.2.2.2.1, hk_.1.2.2.2.2, fun e_ => Nat.not_le.2 hk_.2 (Kd.S_base ho0 k_ e_.symm)⟩)); have n3_ := Aside0.mk (Kd.R_below (by (with_reducible repeat (first | apply Kd.R_alloc | apply Kd.R_drewN | apply Kd.R_drew)); exact HO_10.out) hb); have n4_ := Aside0.mk (Kd.S_mono (ok' := fun k_ => (BxHO126 ≤ k_ ∧ k_ < BxHO130) ∧ some k_ ≠ (v111 : Value).ownBlock ∧ some k_ ≠ (.slice Ao25 t113.length co25 : Value).ownBlock ∧ some k_ ≠ (.slice Ao26 t116.length co26 : Value).ownBlock ∧ some k_ ≠ (v121 : Value).ownBlock ∧ some k_ ≠ (v129 : Value).ownBlock) (Kd.S_old (HO126.out) hb) (fun k_ hk_ => ⟨(by have h1_ := hk_.1.1; have h2_ := hk_.2; omega), hk_.1.2.1, hk_.1.2.2.1, hk_.1.2.2.2.1, hk_.1.2.2.2.2, fun e_ => Nat.not_le.2 hk_.2 (Kd.S_base ho0 k_ e_.symm)⟩)); have n5_ := Aside0.mk (Kd.S_lower (Kd.S_mono (ok' := fun k_ => (BxHO130 ≤ k_) ∧ some k_ ≠ (v111 : Value).ownBlock ∧ some k_ ≠ (.slice Ao25 t113.length co25 : Value).ownBlock ∧ some k_ ≠ (.slice Ao26 t116.length co26 : Value).ownBlock ∧ some k_ ≠ (v121 : Value).ownBlock ∧ some k_ ≠ (.slice Ao39 t124.length co39 : Value).ownBlock) (Kd.S_bound ho0) (fun k_ hk_ => ⟨(by have h1_ := hk_.2.1; omega), (Kd.fresh' (Kd.R_lt (by (with_reducible repeat (first | apply Kd.R_alloc | apply Kd.R_drewN | apply Kd.R_drew)); exact HO_6.out)) k_ hk_.2.1), (Kd.fresh' (Kd.S_lt (by (with_reducible repeat (first | apply Kd.S_alloc | apply Kd.S_drewN | apply Kd.S_drew)); exact HO_8.out)) k_ hk_.2.1), (Kd.fresh' (Kd.S_lt (by (with_reducible repeat (first | apply Kd.S_alloc | apply Kd.S_drewN | apply Kd.S_drew)); exact HO_9.out)) k_ hk_.2.1), (Kd.fresh' (Kd.R_lt (by (with_reducible repeat (first | apply Kd.R_alloc | apply Kd.R_drewN | apply Kd.R_drew)); exact HO_10.out)) k_ hk_.2.1), (Kd.fresh' (Kd.S_lt (by (with_reducible repeat (first | apply Kd.S_alloc | apply Kd.S_drewN | apply Kd.S_drew)); exact HO126.out)) k_ hk_.2.1)⟩)) (below_size (by repeat (first | (with_reducible first | exact HB.out | apply below_alloc | apply pw_below_drewN | apply below_drew1) | exact HB.out)))); have n6_ := Aside0.mk (below_step (by repeat (first | (with_reducible first | exact HB.out | apply below_alloc | apply pw_below_drewN | apply below_drew1) | exact HB.out)) hb); clear HO_6; clear HO_8; clear HO_9; clear HO_10; clear HO126; clear HB; have HO_6 := n0_; have HO_8 := n1_; have HO_9 := n2_; have HO_10 := n3_; have HO126 := n4_; have HO130 := n5_; have HB := n6_; clear n0_ n1_ n2_ n3_ n4_ n5_ n6_; (try clear hb); (try clear hb2); (try clear hk); (try clear hi); (try clear ho0); obtain ⟨Ao46, co46, eo46⟩ := Kd.S_slice HO130.out; subst eo46) | ((with_reducible refine gate_callee (f := 21) rfl ?_); refine goesL_ (some 62) rfl rfl Try.func21 (by kernel_rfl) rfl #[.slice Ao26 t116.length co26, .slice Ao46 t128.length co46] rfl (by (try simp only [List.map_toArray, List.map_cons, List.map_nil]); first | done | rfl | (simp only [List.length_drop, List.length_take]; rfl)) ?_; (with_reducible refine (laws_eqFeatureS.calls kj16 _ _ t116 _ _ t128 t131 _ ?side1 ?side2 ?side3 ?side4 A43.out).mono ?_); (case side1 => repeat (first | exact (Kd.S_reads' HO_9.out).2.2 | (with_reducible refine Kd.C_alloc ?_ _) | (with_reducible refine Kd.C_drewN ?_ _) | (with_reducible refine Kd.C_drew ?_))); (case side2 => exact (Kd.S_reads' HO_9.out).2.1); (case side3 => repeat (first | exact (Kd.S_reads' HO130.out).2.2 | (with_reducible refine Kd.C_alloc ?_ _) | (with_reducible refine Kd.C_drewN ?_ _) | (with_reducible refine Kd.C_drew ?_))); (case side4 => exact (Kd.S_reads' HO130.out).2.1); rintro e w47 ⟨rfl, hb⟩; refine ⟨_, rfl, ?_⟩; have n0_ := Aside0.mk (Kd.R_below (by (with_reducible repeat (first | apply Kd.R_alloc | apply Kd.R_drewN | apply Kd.R_drew)); exact HO_6.out) hb); have n1_ := Aside0.mk (Kd.S_below (by (with_reducible repeat (first | apply Kd.S_alloc | apply Kd.S_drewN | apply Kd.S_drew)); exact HO_8.out) hb); have n2_ := Aside0.mk (Kd.S_below (by (with_reducible repeat (first | apply Kd.S_alloc | apply Kd.S_drewN | apply Kd.S_drew)); exact HO_9.out) hb); have n3_ := Aside0.mk (Kd.R_below (by (with_reducible repeat (first | apply Kd.R_alloc | apply Kd.R_drewN | apply Kd.R_drew)); exact HO_10.out) hb); have n4_ := Aside0.mk (Kd.S_below (by (with_reducible repeat (first | apply Kd.S_alloc | apply Kd.S_drewN | apply Kd.S_drew)); exact HO126.out) hb); have n5_ := Aside0.mk (Kd.S_below (by (with_reducible repeat (first | apply Kd.S_alloc | apply Kd.S_drewN | apply Kd.S_drew)); exact HO130.out) hb); have n6_ := Aside0.mk (below_step (by repeat (first | (with_reducible first | exact HB.out | apply below_alloc | apply pw_below_drewN | apply below_drew1) | exact HB.out)) hb); clear HO_6; clear HO_8; clear HO_9; clear HO_10; clear HO126; clear HO130; clear HB; have HO_6 := n0_; have HO_8 := n1_; have HO_9 := n2_; have HO_10 := n3_; have HO126 := n4_; have HO130 := n5_; have HB := n6_; clear n0_ n1_ n2_ n3_ n4_ n5_ n6_; (try clear hb); (try clear hb2); (try clear hk); (try clear hi)))
              (try simp only [Act.put, List.setIfInBounds_toArray, List.set_cons_zero, List.set_cons_succ])
              have H := HC44.out
              clear HC44
              by_cases c48 : t131 = true
              · subst c48
                have H1 : ((laws_markFeatureS.f kj16 t113 1).bind fun bt132 => ((laws_markFeatureS.f kj16 t116 bt132.1).bind fun bt134 => (if bt134.1 < 0 then (laws_FnExactGreedyMatches.j1 kj16 l0 l1 t109 t110 t119 true) else ((laws_eqInt64S.f kj16 t119 t109).bind fun t136 => (if t136 = true then (laws_FnExactGreedyMatches.j1 kj16 l0 l1 t109 t110 t119 (t120 != t110)) else (laws_FnExactGreedyMatches.j1 kj16 l0 l1 t109 t110 t119 true)))))) = some r := by rw [if_pos rfl] at H; exact H
                clear H
                have H := H1
                clear H1
                replace H := Option.bind_eq_some_iff.mp H
                obtain ⟨⟨t132, t133⟩, A490, H⟩ := H
                replace H : ((laws_markFeatureS.f kj16 t116 t132).bind fun bt134 => (if bt134.1 < 0 then (laws_FnExactGreedyMatches.j1 kj16 l0 l1 t109 t110 t119 true) else ((laws_eqInt64S.f kj16 t119 t109).bind fun t136 => (if t136 = true then (laws_FnExactGreedyMatches.j1 kj16 l0 l1 t109 t110 t119 (t120 != t110)) else (laws_FnExactGreedyMatches.j1 kj16 l0 l1 t109 t110 t119 true))))) = some r := H
                have A49 := Aside0.mk A490
                clear A490
                replace H := Option.bind_eq_some_iff.mp H
                obtain ⟨⟨t134, t135⟩, A500, H⟩ := H
                replace H : (if t134 < 0 then (laws_FnExactGreedyMatches.j1 kj16 l0 l1 t109 t110 t119 true) else ((laws_eqInt64S.f kj16 t119 t109).bind fun t136 => (if t136 = true then (laws_FnExactGreedyMatches.j1 kj16 l0 l1 t109 t110 t119 (t120 != t110)) else (laws_FnExactGreedyMatches.j1 kj16 l0 l1 t109 t110 t119 true)))) = some r := H
                have A50 := Aside0.mk A500
                clear A500
                have HC51 := Aside0.mk H
                clear H
                go_upto_region 21 with (first | ((with_reducible refine gate_callee (f := 34) rfl ?_); refine goesL_ (some 66) rfl rfl Try.func34 (by kernel_rfl) rfl #[.slice Ao25 t113.length co25, .int .i64 1] rfl (by (try simp only [List.map_toArray, List.map_cons, List.map_nil]); first | done | rfl | (simp only [List.length_drop, List.length_take]; rfl)) ?_; (with_reducible refine (laws_markFeatureS.calls kj16 ?PPA49 (.slice Ao25 t113.length co25) t113 1 t132 t133 w _ ?side1 ?side2 A49.out).mono ?_); (case side1 => repeat (first | (with_reducible first | exact HB.out | apply below_alloc | apply pw_below_drewN | apply below_drew1) | exact HB.out)); (case side2 => exact Kd.S_bound HO_8.out); rintro e w52 ⟨rfl, hy0, hb, hkp⟩; refine ⟨_, rfl, ?_⟩; have n0_ := Aside0.mk (Kd.R_mono (ok' := fun k_ => some k_ ≠ (v121 : Value).ownBlock) (Kd.R_keptB ((Kd.R_mono (Kd.R_tight2 rfl HO_6.out) (fun k_ hk => (⟨hk.2, fun hs_ => ((And.left hs_).2.1) hk.1⟩ : _ ∧ ¬ (_ ∧ _))))) hkp (fun k_ hk_ hs_ => (hk_.2) hs_)) (fun k_ hk_ => hk_.1.1)); have n1_ := Aside0.mk ((Kd.S_mono hy0 (fun _ h_ => h_.1))); have n2_ := Aside0.mk (Kd.S_mono (ok' := fun k_ => (BxHO118 ≤ k_ ∧ k_ < BxHO126 ∧ k_ < BxHO130) ∧ some k_ ≠ (v111 : Value).ownBlock ∧ some k_ ≠ (.slice Ao25 t113.length co25 : Value).ownBlock ∧ some k_ ≠ (v121 : Value).ownBlock ∧ some k_ ≠ (.slice Ao39 t124.length co39 : Value).ownBlock ∧ some k_ ≠ (.slice Ao46 t128.length co46 : Value).ownBlock) (Kd.S_keptB ((Kd.S_mono HO_9.out (fun k_ hk_ => (⟨hk_, fun hs_ => RPW.ivf_ (And.left hs_) (fun h2_ => by have h1_ := hk_.1; have h3_ := h2_.1; omega)⟩ : _ ∧ ¬ (_ ∧ _))))) hkp (fun k_ hk_ hs_ => (hk_.2) hs_)) (fun k_ hk_ => ⟨(by have h_ := hk_.1.1.1; omega), hk_.1.1.2.1, hk_.1.1.2.2.1, hk_.1.1.2.2.2.1, hk_.1.1.2.2.2.2.1, hk_.1.1.2.2.2.2.2⟩)); have n3_ := Aside0.mk (Kd.R_mono (ok' := fun k_ => some k_ ≠ (v111 : Value).ownBlock) (Kd.R_keptB ((Kd.R_mono (Kd.R_tight2 rfl HO_10.out) (fun k_ hk => (⟨hk.2, fun hs_ => ((And.left hs_).2.2.2.1) hk.1⟩ : _ ∧ ¬ (_ ∧ _))))) hkp (fun k_ hk_ hs_ => (hk_.2) hs_)) (fun k_ hk_ => hk_.1.1)); have n4_ := Aside0.mk (Kd.S_mono (ok' := fun k_ => (BxHO126 ≤ k_ ∧ k_ < BxHO130) ∧ some k_ ≠ (v111 : Value).ownBlock ∧ some k_ ≠ (.slice Ao25 t113.length co25 : Value).ownBlock ∧ some k_ ≠ (.slice Ao26 t116.length co26 : Value).ownBlock ∧ some k_ ≠ (v121 : Value).ownBlock ∧ some k_ ≠ (.slice Ao46 t128.length co46 : Value).ownBlock) (Kd.S_keptB ((Kd.S_mono HO126.out (fun k_ hk_ => (⟨hk_, fun hs_ => RPW.ivf_ (And.left hs_) (fun h2_ => by have h1_ := hk_.1; have h3_ := h2_.1; omega)⟩ : _ ∧ ¬ (_ ∧ _))))) hkp (fun k_ hk_ hs_ => (hk_.2) hs_)) (fun k_ hk_ => ⟨(by have h_ := hk_.1.1.1; omega), hk_.1.1.2.1, hk_.1.1.2.2.1, hk_.1.1.2.2.2.1, hk_.1.1.2.2.2.2.1, hk_.1.1.2.2.2.2.2⟩)); have n5_ := Aside0.mk (Kd.S_mono (ok' := fun k_ => (BxHO130 ≤ k_) ∧ some k_ ≠ (v111 : Value).ownBlock ∧ some k_ ≠ (.slice Ao25 t113.length co25 : Value).ownBlock ∧ some k_ ≠ (.slice Ao26 t116.length co26 : Value).ownBlock ∧ some k_ ≠ (v121 : Value).ownBlock ∧ some k_ ≠ (.slice Ao39 t124.length co39 : Value).ownBlock) (Kd.S_keptB ((Kd.S_mono HO130.out (fun k_ hk_ => (⟨hk_, fun hs_ => RPW.ivf_ (And.left hs_) (fun h2_ => by have h1_ := hk_.1; have h3_ := h2_.1; omega)⟩ : _ ∧ ¬ (_ ∧ _))))) hkp (fun k_ hk_ hs_ => (hk_.2) hs_)) (fun k_ hk_ => ⟨(by have h_ := hk_.1.1.1; omega), hk_.1.1.2.1, hk_.1.1.2.2.1, hk_.1.1.2.2.2.1, hk_.1.1.2.2.2.2.1, hk_.1.1.2.2.2.2.2⟩)); have n6_ := Aside0.mk (hb); clear HO_6; clear HO_8; clear HO_9; clear HO_10; clear HO126; clear HO130; clear HB; have HO_6 := n0_; have HO_8 := n1_; have HO_9 := n2_; have HO_10 := n3_; have HO126 := n4_; have HO130 := n5_; have HB := n6_; clear n0_ n1_ n2_ n3_ n4_ n5_ n6_; (try clear hb); (try clear hkp); (try clear hy0)) | ((with_reducible refine gate_callee (f := 34) rfl ?_); refine goesL_ (some 69) rfl rfl Try.func34 (by kernel_rfl) rfl #[.slice Ao26 t116.length co26, .int .i64 t132] rfl (by (try simp only [List.map_toArray, List.map_cons, List.map_nil]); first | done | rfl | (simp only [List.length_drop, List.length_take]; rfl)) ?_; (with_reducible refine (laws_markFeatureS.calls kj16 ?PPA50 (.slice Ao26 t116.length co26) t116 t132 t134 t135 w _ ?side1 ?side2 A50.out).mono ?_); (case side1 => repeat (first | (with_reducible first | exact HB.out | apply below_alloc | apply pw_below_drewN | apply below_drew1) | exact HB.out)); (case side2 => exact Kd.S_bound HO_9.out); rintro e w53 ⟨rfl, hy0, hb, hkp⟩; refine ⟨_, rfl, ?_⟩; have n0_ := Aside0.mk (Kd.R_mono (ok' := fun k_ => some k_ ≠ (v121 : Value).ownBlock) (Kd.R_keptB ((Kd.R_mono (Kd.R_tight2 rfl HO_6.out) (fun k_ hk => (⟨hk.2, fun hs_ => ((And.left hs_).2.1) hk.1⟩ : _ ∧ ¬ (_ ∧ _))))) hkp (fun k_ hk_ hs_ => (hk_.2) hs_)) (fun k_ hk_ => hk_.1.1)); have n1_ := Aside0.mk (Kd.S_mono (ok' := fun k_ => (BxHO115 ≤ k_ ∧ k_ < BxHO118 ∧ k_ < BxHO126 ∧ k_ < BxHO130) ∧ some k_ ≠ (v111 : Value).ownBlock ∧ some k_ ≠ (.slice Ao26 t116.length co26 : Value).ownBlock ∧ some k_ ≠ (v121 : Value).ownBlock ∧ some k_ ≠ (.slice Ao39 t124.length co39 : Value).ownBlock ∧ some k_ ≠ (.slice Ao46 t128.length co46 : Value).ownBlock) (Kd.S_keptB ((Kd.S_mono HO_8.out (fun k_ hk_ => (⟨hk_, fun hs_ => RPW.ivf_ (And.left hs_) (fun h2_ => by have h1_ := hk_.1; have h3_ := h2_.1; omega)⟩ : _ ∧ ¬ (_ ∧ _))))) hkp (fun k_ hk_ hs_ => (hk_.2) hs_)) (fun k_ hk_ => ⟨(by have h_ := hk_.1.1.1; omega), hk_.1.1.2.1, hk_.1.1.2.2.1, hk_.1.1.2.2.2.1, hk_.1.1.2.2.2.2.1, hk_.1.1.2.2.2.2.2⟩)); have n2_ := Aside0.mk ((Kd.S_mono hy0 (fun _ h_ => h_.1))); have n3_ := Aside0.mk (Kd.R_mono (ok' := fun k_ => some k_ ≠ (v111 : Value).ownBlock) (Kd.R_keptB ((Kd.R_mono (Kd.R_tight2 rfl HO_10.out) (fun k_ hk => (⟨hk.2, fun hs_ => ((And.left hs_).2.2.2.1) hk.1⟩ : _ ∧ ¬ (_ ∧ _))))) hkp (fun k_ hk_ hs_ => (hk_.2) hs_)) (fun k_ hk_ => hk_.1.1)); have n4_ := Aside0.mk (Kd.S_mono (ok' := fun k_ => (BxHO126 ≤ k_ ∧ k_ < BxHO130) ∧ some k_ ≠ (v111 : Value).ownBlock ∧ some k_ ≠ (.slice Ao25 t113.length co25 : Value).ownBlock ∧ some k_ ≠ (.slice Ao26 t116.length co26 : Value).ownBlock ∧ some k_ ≠ (v121 : Value).ownBlock ∧ some k_ ≠ (.slice Ao46 t128.length co46 : Value).ownBlock) (Kd.S_keptB ((Kd.S_mono HO126.out (fun k_ hk_ => (⟨hk_, fun hs_ => RPW.ivf_ (And.left hs_) (fun h2_ => by have h1_ := hk_.1; have h3_ := h2_.1; omega)⟩ : _ ∧ ¬ (_ ∧ _))))) hkp (fun k_ hk_ hs_ => (hk_.2) hs_)) (fun k_ hk_ => ⟨(by have h_ := hk_.1.1.1; omega), hk_.1.1.2.1, hk_.1.1.2.2.1, hk_.1.1.2.2.2.1, hk_.1.1.2.2.2.2.1, hk_.1.1.2.2.2.2.2⟩)); have n5_ := Aside0.mk (Kd.S_mono (ok' := fun k_ => (BxHO130 ≤ k_) ∧ some k_ ≠ (v111 : Value).ownBlock ∧ some k_ ≠ (.slice Ao25 t113.length co25 : Value).ownBlock ∧ some k_ ≠ (.slice Ao26 t116.length co26 : Value).ownBlock ∧ some k_ ≠ (v121 : Value).ownBlock ∧ some k_ ≠ (.slice Ao39 t124.length co39 : Value).ownBlock) (Kd.S_keptB ((Kd.S_mono HO130.out (fun k_ hk_ => (⟨hk_, fun hs_ => RPW.ivf_ (And.left hs_) (fun h2_ => by have h1_ := hk_.1; have h3_ := h2_.1; omega)⟩ : _ ∧ ¬ (_ ∧ _))))) hkp (fun k_ hk_ hs_ => (hk_.2) hs_)) (fun k_ hk_ => ⟨(by have h_ := hk_.1.1.1; omega), hk_.1.1.2.1, hk_.1.1.2.2.1, hk_.1.1.2.2.2.1, hk_.1.1.2.2.2.2.1, hk_.1.1.2.2.2.2.2⟩)); have n6_ := Aside0.mk (hb); clear HO_6; clear HO_8; clear HO_9; clear HO_10; clear HO126; clear HO130; clear HB; have HO_6 := n0_; have HO_8 := n1_; have HO_9 := n2_; have HO_10 := n3_; have HO126 := n4_; have HO130 := n5_; have HB := n6_; clear n0_ n1_ n2_ n3_ n4_ n5_ n6_; (try clear hb); (try clear hkp); (try clear hy0)))
                (try simp only [Act.put, List.setIfInBounds_toArray, List.set_cons_zero, List.set_cons_succ])
                go_cut [82] (fun v82 wc => ∃ (kq : Nat) (x82_50 : Bool), v82 = .bool x82_50 ∧ Aside0 (laws_FnExactGreedyMatches.j1 kq l0 l1 t109 t110 t119 x82_50 = some r) ∧ Aside0 (kq ≤ kj16) ∧ Aside0 (Kd.R (Kd.int .i64) 2 wc w.heap.size (fun k_ => some k_ ≠ (v121 : Value).ownBlock) v111 t109) ∧ Aside0 (Kd.R (Kd.int .i64) 2 wc w.heap.size (fun k_ => some k_ ≠ (v111 : Value).ownBlock) v121 t119) ∧ Aside0 (Below w.heap.size w wc))
                case first =>
                  have H := HC51.out
                  clear HC51
                  by_cases c54 : t134 < 0
                  · rw [if_pos c54] at H
                    have c54b0 : decide (t134 < 0) = true := decide_eq_true c54
                    clear c54
                    (first | rw [c54b0] | (simp only [i64_w, i32_w]; rw [c54b0]) | (simp only [c54b2, Bool.not_true, Bool.not_false]) | (simp only [c54b1, Bool.not_true, Bool.not_false]) | (simp only [c54b0, Bool.not_true, Bool.not_false]) | skip)
                    have H' := Aside0.mk H
                    clear H
                    go_wp2
                    go_meet
                    case rel => exact ⟨_, (true), (by first | rfl | (simp; done) | (simp [*]; done)), H', ⟨by have := HJ16.out; first | omega | exact Nat.le_refl _⟩, ⟨by (with_reducible repeat (first | apply Kd.R_alloc | apply Kd.R_drewN | apply Kd.R_drew)); exact HO_6.out⟩, ⟨by (with_reducible repeat (first | apply Kd.R_alloc | apply Kd.R_drewN | apply Kd.R_drew)); exact HO_10.out⟩, ⟨by repeat (first | (with_reducible first | exact HB.out | apply below_alloc | apply pw_below_drewN | apply below_drew1) | exact HB.out)⟩⟩
                  · rw [if_neg c54] at H
                    have c54b0 : decide (t134 < 0) = false := decide_eq_false c54
                    clear c54
                    (first | rw [c54b0] | (simp only [i64_w, i32_w]; rw [c54b0]) | (simp only [c54b2, Bool.not_true, Bool.not_false]) | (simp only [c54b1, Bool.not_true, Bool.not_false]) | (simp only [c54b0, Bool.not_true, Bool.not_false]) | skip)
                    replace H := Option.bind_eq_some_iff.mp H
                    obtain ⟨t136, A550, H⟩ := H
                    replace H : (if t136 = true then (laws_FnExactGreedyMatches.j1 kj16 l0 l1 t109 t110 t119 (t120 != t110)) else (laws_FnExactGreedyMatches.j1 kj16 l0 l1 t109 t110 t119 true)) = some r := H
                    have A55 := Aside0.mk A550
                    clear A550
                    by_cases c56 : t136 = true
                    · subst c56
                      have H1 : (laws_FnExactGreedyMatches.j1 kj16 l0 l1 t109 t110 t119 (t120 != t110)) = some r := by rw [if_pos rfl] at H; exact H
                      clear H
                      have H := H1
                      clear H1
                      have H' := Aside0.mk H
                      clear H
                      obtain ⟨Ao57, co57, eo57⟩ := Kd.R_slice HO_10.out
                      subst eo57
                      obtain ⟨Ao58, co58, eo58⟩ := Kd.R_slice HO_6.out
                      subst eo58
                      go_wp2_with (first | (go_at_call 31; (with_reducible refine (laws_eqInt64S.calls kj16 _ _ t119 _ _ t109 true _ ?side1 ?side2 ?side3 ?side4 A55.out).mono ?_); (case side1 => repeat (first | exact (Kd.R_reads' HO_10.out).2.2 | (with_reducible refine Kd.C_alloc ?_ _) | (with_reducible refine Kd.C_drewN ?_ _) | (with_reducible refine Kd.C_drew ?_))); (case side2 => exact (Kd.R_reads' HO_10.out).2.1); (case side3 => repeat (first | exact (Kd.R_reads' HO_6.out).2.2 | (with_reducible refine Kd.C_alloc ?_ _) | (with_reducible refine Kd.C_drewN ?_ _) | (with_reducible refine Kd.C_drew ?_))); (case side4 => exact (Kd.R_reads' HO_6.out).2.1); rintro e w' ⟨rfl, ⟨nd, rfl⟩⟩; (try (rw [drewN_self w53]; generalize hq_ : World.drewN w53 _ = w53; have n0_ : Aside0 (Kd.S k28 28 w53 w.heap.size (fun k_ => ((BxHO126 ≤ k_ ∧ k_ < BxHO130) ∧ (some k_ ≠ (.slice Ao58 t109.length co58 : Value).ownBlock ∧ (some k_ ≠ (.slice Ao25 t113.length co25 : Value).ownBlock ∧ (some k_ ≠ (.slice Ao26 t116.length co26 : Value).ownBlock ∧ (some k_ ≠ (.slice Ao57 t119.length co57 : Value).ownBlock ∧ some k_ ≠ (.slice Ao46 t128.length co46 : Value).ownBlock)))))) (.slice Ao39 t124.length co39) t124) := ⟨by rw [← hq_]; exact (by (with_reducible repeat (first | apply Kd.S_alloc | apply Kd.S_drewN | apply Kd.S_drew)); exact HO126.out)⟩; have n1_ : Aside0 (Kd.S k28 28 w53 w.heap.size (fun k_ => ((BxHO130 ≤ k_) ∧ (some k_ ≠ (.slice Ao58 t109.length co58 : Value).ownBlock ∧ (some k_ ≠ (.slice Ao25 t113.length co25 : Value).ownBlock ∧ (some k_ ≠ (.slice Ao26 t116.length co26 : Value).ownBlock ∧ (some k_ ≠ (.slice Ao57 t119.length co57 : Value).ownBlock ∧ some k_ ≠ (.slice Ao39 t124.length co39 : Value).ownBlock)))))) (.slice Ao46 t128.length co46) t128) := ⟨by rw [← hq_]; exact (by (with_reducible repeat (first | apply Kd.S_alloc | apply Kd.S_drewN | apply Kd.S_drew)); exact HO130.out)⟩; have n2_ : Aside0 (Kd.R (Kd.int .i64) 2 w53 w.heap.size (fun k_ => some k_ ≠ (.slice Ao58 t109.length co58 : Value).ownBlock) (.slice Ao57 t119.length co57) t119) := ⟨by rw [← hq_]; exact (by (with_reducible repeat (first | apply Kd.R_alloc | apply Kd.R_drewN | apply Kd.R_drew)); exact HO_10.out)⟩; have n3_ : Aside0 (Kd.R (Kd.int .i64) 2 w53 w.heap.size (fun k_ => some k_ ≠ (.slice Ao57 t119.length co57 : Value).ownBlock) (.slice Ao58 t109.length co58) t109) := ⟨by rw [← hq_]; exact (by (with_reducible repeat (first | apply Kd.R_alloc | apply Kd.R_drewN | apply Kd.R_drew)); exact HO_6.out)⟩; have n4_ : Aside0 (Kd.S k28 28 w53 w.heap.size (fun k_ => ((BxHO115 ≤ k_ ∧ k_ < BxHO118 ∧ k_ < BxHO126 ∧ k_ < BxHO130) ∧ (some k_ ≠ (.slice Ao58 t109.length co58 : Value).ownBlock ∧ (some k_ ≠ (.slice Ao26 t116.length co26 : Value).ownBlock ∧ (some k_ ≠ (.slice Ao57 t119.length co57 : Value).ownBlock ∧ (some k_ ≠ (.slice Ao39 t124.length co39 : Value).ownBlock ∧ some k_ ≠ (.slice Ao46 t128.length co46 : Value).ownBlock)))))) (.slice Ao25 t113.length co25) t133) := ⟨by rw [← hq_]; exact (by (with_reducible repeat (first | apply Kd.S_alloc | apply Kd.S_drewN | apply Kd.S_drew)); exact HO_8.out)⟩; have n5_ : Aside0 (Kd.S k28 28 w53 w.heap.size (fun k_ => ((BxHO118 ≤ k_ ∧ k_ < BxHO126 ∧ k_ < BxHO130) ∧ (some k_ ≠ (.slice Ao58 t109.length co58 : Value).ownBlock ∧ (some k_ ≠ (.slice Ao25 t113.length co25 : Value).ownBlock ∧ (some k_ ≠ (.slice Ao57 t119.length co57 : Value).ownBlock ∧ (some k_ ≠ (.slice Ao39 t124.length co39 : Value).ownBlock ∧ some k_ ≠ (.slice Ao46 t128.length co46 : Value).ownBlock)))))) (.slice Ao26 t116.length co26) t135) := ⟨by rw [← hq_]; exact (by (with_reducible repeat (first | apply Kd.S_alloc | apply Kd.S_drewN | apply Kd.S_drew)); exact HO_9.out)⟩; have n6_ : Aside0 (Below w.heap.size w w53) := ⟨by rw [← hq_]; exact (by repeat (first | (with_reducible first | exact HB.out | apply below_alloc | apply pw_below_drewN | apply below_drew1) | exact HB.out))⟩; clear HO126 HO130 HO_10 HO_6 HO_8 HO_9 HB hq_; have HO126 := n0_; have HO130 := n1_; have HO_10 := n2_; have HO_6 := n3_; have HO_8 := n4_; have HO_9 := n5_; have HB := n6_; clear n0_ n1_ n2_ n3_ n4_ n5_ n6_))))
                      go_meet
                      case rel => exact ⟨_, ((t120 != t110)), (by first | rfl | (simp; done) | (simp [*]; done)), H', ⟨by have := HJ16.out; first | omega | exact Nat.le_refl _⟩, ⟨by (with_reducible repeat (first | apply Kd.R_alloc | apply Kd.R_drewN | apply Kd.R_drew)); exact HO_6.out⟩, ⟨by (with_reducible repeat (first | apply Kd.R_alloc | apply Kd.R_drewN | apply Kd.R_drew)); exact HO_10.out⟩, ⟨by repeat (first | (with_reducible first | exact HB.out | apply below_alloc | apply pw_below_drewN | apply below_drew1) | exact HB.out)⟩⟩
                    · replace c56 := Bool.eq_false_iff.mpr c56
                      subst c56
                      have H1 : (laws_FnExactGreedyMatches.j1 kj16 l0 l1 t109 t110 t119 true) = some r := by rw [if_neg (show ¬ (false = true) by decide)] at H; exact H
                      clear H
                      have H := H1
                      clear H1
                      have H' := Aside0.mk H
                      clear H
                      obtain ⟨Ao59, co59, eo59⟩ := Kd.R_slice HO_10.out
                      subst eo59
                      obtain ⟨Ao60, co60, eo60⟩ := Kd.R_slice HO_6.out
                      subst eo60
                      go_wp2_with (first | (go_at_call 31; (with_reducible refine (laws_eqInt64S.calls kj16 _ _ t119 _ _ t109 false _ ?side1 ?side2 ?side3 ?side4 A55.out).mono ?_); (case side1 => repeat (first | exact (Kd.R_reads' HO_10.out).2.2 | (with_reducible refine Kd.C_alloc ?_ _) | (with_reducible refine Kd.C_drewN ?_ _) | (with_reducible refine Kd.C_drew ?_))); (case side2 => exact (Kd.R_reads' HO_10.out).2.1); (case side3 => repeat (first | exact (Kd.R_reads' HO_6.out).2.2 | (with_reducible refine Kd.C_alloc ?_ _) | (with_reducible refine Kd.C_drewN ?_ _) | (with_reducible refine Kd.C_drew ?_))); (case side4 => exact (Kd.R_reads' HO_6.out).2.1); rintro e w' ⟨rfl, ⟨nd, rfl⟩⟩; (try (rw [drewN_self w53]; generalize hq_ : World.drewN w53 _ = w53; have n0_ : Aside0 (Kd.S k28 28 w53 w.heap.size (fun k_ => ((BxHO126 ≤ k_ ∧ k_ < BxHO130) ∧ (some k_ ≠ (.slice Ao60 t109.length co60 : Value).ownBlock ∧ (some k_ ≠ (.slice Ao25 t113.length co25 : Value).ownBlock ∧ (some k_ ≠ (.slice Ao26 t116.length co26 : Value).ownBlock ∧ (some k_ ≠ (.slice Ao59 t119.length co59 : Value).ownBlock ∧ some k_ ≠ (.slice Ao46 t128.length co46 : Value).ownBlock)))))) (.slice Ao39 t124.length co39) t124) := ⟨by rw [← hq_]; exact (by (with_reducible repeat (first | apply Kd.S_alloc | apply Kd.S_drewN | apply Kd.S_drew)); exact HO126.out)⟩; have n1_ : Aside0 (Kd.S k28 28 w53 w.heap.size (fun k_ => ((BxHO130 ≤ k_) ∧ (some k_ ≠ (.slice Ao60 t109.length co60 : Value).ownBlock ∧ (some k_ ≠ (.slice Ao25 t113.length co25 : Value).ownBlock ∧ (some k_ ≠ (.slice Ao26 t116.length co26 : Value).ownBlock ∧ (some k_ ≠ (.slice Ao59 t119.length co59 : Value).ownBlock ∧ some k_ ≠ (.slice Ao39 t124.length co39 : Value).ownBlock)))))) (.slice Ao46 t128.length co46) t128) := ⟨by rw [← hq_]; exact (by (with_reducible repeat (first | apply Kd.S_alloc | apply Kd.S_drewN | apply Kd.S_drew)); exact HO130.out)⟩; have n2_ : Aside0 (Kd.R (Kd.int .i64) 2 w53 w.heap.size (fun k_ => some k_ ≠ (.slice Ao60 t109.length co60 : Value).ownBlock) (.slice Ao59 t119.length co59) t119) := ⟨by rw [← hq_]; exact (by (with_reducible repeat (first | apply Kd.R_alloc | apply Kd.R_drewN | apply Kd.R_drew)); exact HO_10.out)⟩; have n3_ : Aside0 (Kd.R (Kd.int .i64) 2 w53 w.heap.size (fun k_ => some k_ ≠ (.slice Ao59 t119.length co59 : Value).ownBlock) (.slice Ao60 t109.length co60) t109) := ⟨by rw [← hq_]; exact (by (with_reducible repeat (first | apply Kd.R_alloc | apply Kd.R_drewN | apply Kd.R_drew)); exact HO_6.out)⟩; have n4_ : Aside0 (Kd.S k28 28 w53 w.heap.size (fun k_ => ((BxHO115 ≤ k_ ∧ k_ < BxHO118 ∧ k_ < BxHO126 ∧ k_ < BxHO130) ∧ (some k_ ≠ (.slice Ao60 t109.length co60 : Value).ownBlock ∧ (some k_ ≠ (.slice Ao26 t116.length co26 : Value).ownBlock ∧ (some k_ ≠ (.slice Ao59 t119.length co59 : Value).ownBlock ∧ (some k_ ≠ (.slice Ao39 t124.length co39 : Value).ownBlock ∧ some k_ ≠ (.slice Ao46 t128.length co46 : Value).ownBlock)))))) (.slice Ao25 t113.length co25) t133) := ⟨by rw [← hq_]; exact (by (with_reducible repeat (first | apply Kd.S_alloc | apply Kd.S_drewN | apply Kd.S_drew)); exact HO_8.out)⟩; have n5_ : Aside0 (Kd.S k28 28 w53 w.heap.size (fun k_ => ((BxHO118 ≤ k_ ∧ k_ < BxHO126 ∧ k_ < BxHO130) ∧ (some k_ ≠ (.slice Ao60 t109.length co60 : Value).ownBlock ∧ (some k_ ≠ (.slice Ao25 t113.length co25 : Value).ownBlock ∧ (some k_ ≠ (.slice Ao59 t119.length co59 : Value).ownBlock ∧ (some k_ ≠ (.slice Ao39 t124.length co39 : Value).ownBlock ∧ some k_ ≠ (.slice Ao46 t128.length co46 : Value).ownBlock)))))) (.slice Ao26 t116.length co26) t135) := ⟨by rw [← hq_]; exact (by (with_reducible repeat (first | apply Kd.S_alloc | apply Kd.S_drewN | apply Kd.S_drew)); exact HO_9.out)⟩; have n6_ : Aside0 (Below w.heap.size w w53) := ⟨by rw [← hq_]; exact (by repeat (first | (with_reducible first | exact HB.out | apply below_alloc | apply pw_below_drewN | apply below_drew1) | exact HB.out))⟩; clear HO126 HO130 HO_10 HO_6 HO_8 HO_9 HB hq_; have HO126 := n0_; have HO130 := n1_; have HO_10 := n2_; have HO_6 := n3_; have HO_8 := n4_; have HO_9 := n5_; have HB := n6_; clear n0_ n1_ n2_ n3_ n4_ n5_ n6_))))
                      go_meet
                      case rel => exact ⟨_, (true), (by first | rfl | (simp; done) | (simp [*]; done)), H', ⟨by have := HJ16.out; first | omega | exact Nat.le_refl _⟩, ⟨by (with_reducible repeat (first | apply Kd.R_alloc | apply Kd.R_drewN | apply Kd.R_drew)); exact HO_6.out⟩, ⟨by (with_reducible repeat (first | apply Kd.R_alloc | apply Kd.R_drewN | apply Kd.R_drew)); exact HO_10.out⟩, ⟨by repeat (first | (with_reducible first | exact HB.out | apply below_alloc | apply pw_below_drewN | apply below_drew1) | exact HB.out)⟩⟩
                case rest =>
                  clear HC51
                  try clear c1
                  try clear c2
                  try clear p2
                  try clear c3
                  try clear c4
                  try clear c5
                  try clear c6
                  try clear c6b0
                  try clear c6b1
                  try clear c6b2
                  try clear c10
                  try clear c10b0
                  try clear c10b1
                  try clear c10b2
                  try clear c11
                  try clear c17
                  try clear c19
                  try clear c21
                  try clear c29
                  try clear c31
                  try clear c34
                  try clear c41
                  try clear c47
                  try clear c48
                  try clear c54
                  try clear c54b0
                  try clear c54b1
                  try clear c54b2
                  try clear c56
                  try clear p2
                  obtain ⟨kq, x82_50, rfl, HA, HJ50, HO_6, HO_10, HB⟩ := hcut
                  cases kq with
                  | zero => exact absurd HA.out (by simp [laws_FnExactGreedyMatches.j1])
                  | succ kj50 =>
                    have H := HA.out
                    clear HA
                    simp only [laws_FnExactGreedyMatches.j1] at H
                    by_cases c61 : x82_50 = true
                    · subst c61
                      have H1 : (some false) = some r := by rw [if_pos rfl] at H; exact H
                      clear H
                      have H := H1
                      clear H1
                      obtain rfl := Option.some.inj H
                      go_wp2
                      go_ret
                      exact ⟨by first | rfl | (simp [errW_none, errW_some] <;> rfl) | (simp [*, errW_none, errW_some] <;> rfl), by repeat (first | (with_reducible first | exact HB.out | apply below_alloc | apply pw_below_drewN | apply below_drew1) | exact HB.out)⟩
                    · replace c61 := Bool.eq_false_iff.mpr c61
                      subst c61
                      have H1 : ((laws_markInt64S.f kj50 t119 1).bind fun bt137 => ((laws_heldInt64S.f kj50 bt137.2 1).bind fun t139 => (if t139 < 0 then (some false) else (if t139 = bt137.1 then ((laws_toFeatureS.f kj50 l0).bind fun t140 => ((laws_toFeatureS.f kj50 l1).bind fun t143 => ((impl_GreedyMatches.f kj50 t140 t143).bind fun bt146 => ((laws_eqInt64S.f kj50 bt146.1 t109).bind fun t150 => (if t150 = true then (laws_FnExactGreedyMatches.j2 kj50 bt137.2 bt137.1 (bt146.2 != t110)) else (laws_FnExactGreedyMatches.j2 kj50 bt137.2 bt137.1 true)))))) else (some false))))) = some r := by rw [if_neg (show ¬ (false = true) by decide)] at H; exact H
                      clear H
                      have H := H1
                      clear H1
                      replace H := Option.bind_eq_some_iff.mp H
                      obtain ⟨⟨t137, t138⟩, A620, H⟩ := H
                      replace H : ((laws_heldInt64S.f kj50 t138 1).bind fun t139 => (if t139 < 0 then (some false) else (if t139 = t137 then ((laws_toFeatureS.f kj50 l0).bind fun t140 => ((laws_toFeatureS.f kj50 l1).bind fun t143 => ((impl_GreedyMatches.f kj50 t140 t143).bind fun bt146 => ((laws_eqInt64S.f kj50 bt146.1 t109).bind fun t150 => (if t150 = true then (laws_FnExactGreedyMatches.j2 kj50 t138 t137 (bt146.2 != t110)) else (laws_FnExactGreedyMatches.j2 kj50 t138 t137 true)))))) else (some false)))) = some r := H
                      have A62 := Aside0.mk A620
                      clear A620
                      replace H := Option.bind_eq_some_iff.mp H
                      obtain ⟨t139, A630, H⟩ := H
                      replace H : (if t139 < 0 then (some false) else (if t139 = t137 then ((laws_toFeatureS.f kj50 l0).bind fun t140 => ((laws_toFeatureS.f kj50 l1).bind fun t143 => ((impl_GreedyMatches.f kj50 t140 t143).bind fun bt146 => ((laws_eqInt64S.f kj50 bt146.1 t109).bind fun t150 => (if t150 = true then (laws_FnExactGreedyMatches.j2 kj50 t138 t137 (bt146.2 != t110)) else (laws_FnExactGreedyMatches.j2 kj50 t138 t137 true)))))) else (some false))) = some r := H
                      have A63 := Aside0.mk A630
                      clear A630
                      have HC64 := Aside0.mk H
                      clear H
                      obtain ⟨Ao65, co65, eo65⟩ := Kd.R_slice HO_10.out
                      subst eo65
                      go_upto_if 90 with (first | ((with_reducible refine gate_callee (f := 45) rfl ?_); refine goesL_ (some 85) rfl rfl Try.func45 (by kernel_rfl) rfl #[.slice Ao65 t119.length co65, .int .i64 1] rfl (by (try simp only [List.map_toArray, List.map_cons, List.map_nil]); first | done | rfl | (simp only [List.length_drop, List.length_take]; rfl)) ?_; (with_reducible refine (laws_markInt64S.calls kj50 (fun k_ => some k_ = (.slice Ao65 t119.length co65 : Value).ownBlock) (.slice Ao65 t119.length co65) t119 1 t137 t138 w _ ?side1 ?side2 A62.out).mono ?_); (case side1 => repeat (first | (with_reducible first | exact HB.out | apply below_alloc | apply pw_below_drewN | apply below_drew1) | exact HB.out)); (case side2 => exact Kd.R_tight rfl HO_10.out); rintro e w66 ⟨rfl, hy0, hb, hkp⟩; refine ⟨_, rfl, ?_⟩; have n0_ := Aside0.mk (Kd.R_mono (ok' := fun k_ => some k_ ≠ (.slice Ao65 t119.length co65 : Value).ownBlock) (Kd.R_keptB (HO_6.out) hkp (fun k_ hk_ hs_ => (hk_) hs_)) (fun k_ hk_ => hk_.1)); have n1_ := Aside0.mk (Kd.R_reok rfl hy0 (fun k_ e_ => HO_10.out.1 k_ e_)); have n2_ := Aside0.mk (hb); clear HO_6; clear HO_10; clear HB; have HO_6 := n0_; have HO_10 := n1_; have HB := n2_; clear n0_ n1_ n2_; (try clear hb); (try clear hkp); (try clear hy0)) | ((with_reducible refine gate_callee (f := 46) rfl ?_); refine goesL_ (some 88) rfl rfl Try.func46 (by kernel_rfl) rfl #[.slice Ao65 t138.length co65, .int .i64 1] rfl (by (try simp only [List.map_toArray, List.map_cons, List.map_nil]); first | done | (rw [show t138.length = t119.length from (Kd.R_reads' HO_10.out).1.symm] <;> rfl) | rfl | (simp only [List.length_drop, List.length_take]; rfl)) ?_; (with_reducible refine (laws_heldInt64S.calls kj50 _ _ t138 1 t139 _ ?side1 ?side2 A63.out).mono ?_); (case side1 => repeat (first | exact (Kd.R_reads' HO_10.out).2.2 | (with_reducible refine Kd.C_alloc ?_ _) | (with_reducible refine Kd.C_drewN ?_ _) | (with_reducible refine Kd.C_drew ?_))); (case side2 => rw [show t138.length = t119.length from (Kd.R_reads' HO_10.out).1.symm]; exact (Kd.R_reads' HO_10.out).2.1); rintro e w' ⟨rfl, ⟨nd, rfl⟩⟩; refine ⟨_, rfl, ?_⟩; (try (rw [drewN_self w66]; generalize hq_ : World.drewN w66 _ = w66; have n0_ : Aside0 (Kd.R (Kd.int .i64) 2 w66 w.heap.size (fun k_ => some k_ ≠ (v111 : Value).ownBlock) (.slice Ao65 t119.length co65) t138) := ⟨by rw [← hq_]; exact (by (with_reducible repeat (first | apply Kd.R_alloc | apply Kd.R_drewN | apply Kd.R_drew)); exact HO_10.out)⟩; have n1_ : Aside0 (Kd.R (Kd.int .i64) 2 w66 w.heap.size (fun k_ => some k_ ≠ (.slice Ao65 t119.length co65 : Value).ownBlock) v111 t109) := ⟨by rw [← hq_]; exact (by (with_reducible repeat (first | apply Kd.R_alloc | apply Kd.R_drewN | apply Kd.R_drew)); exact HO_6.out)⟩; have n2_ : Aside0 (Below w.heap.size w w66) := ⟨by rw [← hq_]; exact (by repeat (first | (with_reducible first | exact HB.out | apply below_alloc | apply pw_below_drewN | apply below_drew1) | exact HB.out))⟩; clear HO_10 HO_6 HB hq_; have HO_10 := n0_; have HO_6 := n1_; have HB := n2_; clear n0_ n1_ n2_))))
                      (try simp only [Act.put, List.setIfInBounds_toArray, List.set_cons_zero, List.set_cons_succ])
                      have H := HC64.out
                      clear HC64
                      by_cases c67 : t139 < 0
                      · rw [if_pos c67] at H
                        have c67b0 : decide (t139 < 0) = true := decide_eq_true c67
                        clear c67
                        (first | rw [c67b0] | (simp only [i64_w, i32_w]; rw [c67b0]) | (simp only [c67b2, Bool.not_true, Bool.not_false]) | (simp only [c67b1, Bool.not_true, Bool.not_false]) | (simp only [c67b0, Bool.not_true, Bool.not_false]) | skip)
                        obtain rfl := Option.some.inj H
                        go_wp2
                        go_ret
                        exact ⟨by first | rfl | (simp [errW_none, errW_some] <;> rfl) | (simp [*, errW_none, errW_some] <;> rfl), by repeat (first | (with_reducible first | exact HB.out | apply below_alloc | apply pw_below_drewN | apply below_drew1) | exact HB.out)⟩
                      · rw [if_neg c67] at H
                        have c67b0 : decide (t139 < 0) = false := decide_eq_false c67
                        clear c67
                        (first | rw [c67b0] | (simp only [i64_w, i32_w]; rw [c67b0]) | (simp only [c67b2, Bool.not_true, Bool.not_false]) | (simp only [c67b1, Bool.not_true, Bool.not_false]) | (simp only [c67b0, Bool.not_true, Bool.not_false]) | skip)
                        by_cases c68 : t139 = t137
                        · rw [if_pos c68] at H
                          have c68b0 : (t139 == t137) = true := beq_iff_eq.mpr c68
                          have c68b1 : (t139 != t137) = false := bne_eq_false_iff_eq.mpr c68
                          clear c68
                          replace H := Option.bind_eq_some_iff.mp H
                          obtain ⟨t140, A690, H⟩ := H
                          replace H : ((laws_toFeatureS.f kj50 l1).bind fun t143 => ((impl_GreedyMatches.f kj50 t140 t143).bind fun bt146 => ((laws_eqInt64S.f kj50 bt146.1 t109).bind fun t150 => (if t150 = true then (laws_FnExactGreedyMatches.j2 kj50 t138 t137 (bt146.2 != t110)) else (laws_FnExactGreedyMatches.j2 kj50 t138 t137 true))))) = some r := H
                          have A69 := Aside0.mk A690
                          clear A690
                          replace H := Option.bind_eq_some_iff.mp H
                          obtain ⟨t143, A700, H⟩ := H
                          replace H : ((impl_GreedyMatches.f kj50 t140 t143).bind fun bt146 => ((laws_eqInt64S.f kj50 bt146.1 t109).bind fun t150 => (if t150 = true then (laws_FnExactGreedyMatches.j2 kj50 t138 t137 (bt146.2 != t110)) else (laws_FnExactGreedyMatches.j2 kj50 t138 t137 true)))) = some r := H
                          have A70 := Aside0.mk A700
                          clear A700
                          replace H := Option.bind_eq_some_iff.mp H
                          obtain ⟨⟨t146, t147⟩, A710, H⟩ := H
                          replace H : ((laws_eqInt64S.f kj50 t146 t109).bind fun t150 => (if t150 = true then (laws_FnExactGreedyMatches.j2 kj50 t138 t137 (t147 != t110)) else (laws_FnExactGreedyMatches.j2 kj50 t138 t137 true))) = some r := H
                          have A71 := Aside0.mk A710
                          clear A710
                          have HC72 := Aside0.mk H
                          clear H
                          go_upto_region 32 with (first | ((with_reducible refine gate_callee (f := 19) rfl ?_); refine goesL_ (some 96) rfl rfl Try.func19 (by kernel_rfl) rfl #[.slice A0 l0.length c0] rfl (by (try simp only [List.map_toArray, List.map_cons, List.map_nil]); first | done | rfl | (simp only [List.length_drop, List.length_take]; rfl)) ?_; (with_reducible refine (laws_toFeatureS.calls kj50 _ _ l0 t140 _ ?side1 ?side2 A69.out).mono ?_); (case side1 => repeat (first | exact (Kd.C_below HR0.out (by repeat (first | (with_reducible first | exact HB.out | apply below_alloc | apply pw_below_drewN | apply below_drew1) | exact HB.out))) | (with_reducible refine Kd.C_alloc ?_ _) | (with_reducible refine Kd.C_drewN ?_ _) | (with_reducible refine Kd.C_drew ?_))); (case side2 => exact HC0.out); rintro e w73 ⟨v141, rfl, ho0, hb⟩; refine ⟨_, rfl, ?_⟩; obtain ⟨BxHO142, hBxHO142⟩ := RPW.ivB hb; have n0_ := Aside0.mk (Kd.R_below (by (with_reducible repeat (first | apply Kd.R_alloc | apply Kd.R_drewN | apply Kd.R_drew)); exact HO_6.out) hb); have n1_ := Aside0.mk (Kd.R_below (by (with_reducible repeat (first | apply Kd.R_alloc | apply Kd.R_drewN | apply Kd.R_drew)); exact HO_10.out) hb); have n2_ := Aside0.mk (Kd.S_lower (Kd.S_mono (ok' := fun k_ => (BxHO142 ≤ k_) ∧ some k_ ≠ (v111 : Value).ownBlock ∧ some k_ ≠ (.slice Ao65 t119.length co65 : Value).ownBlock) (Kd.S_bound ho0) (fun k_ hk_ => ⟨(by have h1_ := hk_.2.1; omega), (Kd.fresh' (Kd.R_lt (by (with_reducible repeat (first | apply Kd.R_alloc | apply Kd.R_drewN | apply Kd.R_drew)); exact HO_6.out)) k_ hk_.2.1), (Kd.fresh' (Kd.R_lt (by (with_reducible repeat (first | apply Kd.R_alloc | apply Kd.R_drewN | apply Kd.R_drew)); exact HO_10.out)) k_ hk_.2.1)⟩)) (below_size (by repeat (first | (with_reducible first | exact HB.out | apply below_alloc | apply pw_below_drewN | apply below_drew1) | exact HB.out)))); have n3_ := Aside0.mk (below_step (by repeat (first | (with_reducible first | exact HB.out | apply below_alloc | apply pw_below_drewN | apply below_drew1) | exact HB.out)) hb); clear HO_6; clear HO_10; clear HB; have HO_6 := n0_; have HO_10 := n1_; have HO142 := n2_; have HB := n3_; clear n0_ n1_ n2_ n3_; (try clear hb); (try clear hb2); (try clear hk); (try clear hi); (try clear ho0)) | ((with_reducible refine gate_callee (f := 19) rfl ?_); refine goesL_ (some 98) rfl rfl Try.func19 (by kernel_rfl) rfl #[.slice A1 l1.length c1] rfl (by (try simp only [List.map_toArray, List.map_cons, List.map_nil]); first | done | rfl | (simp only [List.length_drop, List.length_take]; rfl)) ?_; (with_reducible refine (laws_toFeatureS.calls kj50 _ _ l1 t143 _ ?side1 ?side2 A70.out).mono ?_); (case side1 => repeat (first | exact (Kd.C_below HR1.out HB.out) | (with_reducible refine Kd.C_alloc ?_ _) | (with_reducible refine Kd.C_drewN ?_ _) | (with_reducible refine Kd.C_drew ?_))); (case side2 => exact HC1.out); rintro e w74 ⟨v144, rfl, ho0, hb⟩; refine ⟨_, rfl, ?_⟩; obtain ⟨BxHO145, hBxHO145⟩ := RPW.ivB hb; have n0_ := Aside0.mk (Kd.R_below (by (with_reducible repeat (first | apply Kd.R_alloc | apply Kd.R_drewN | apply Kd.R_drew)); exact HO_6.out) hb); have n1_ := Aside0.mk (Kd.R_below (by (with_reducible repeat (first | apply Kd.R_alloc | apply Kd.R_drewN | apply Kd.R_drew)); exact HO_10.out) hb); have n2_ := Aside0.mk (Kd.S_mono (ok' := fun k_ => (BxHO142 ≤ k_ ∧ k_ < BxHO145) ∧ some k_ ≠ (v111 : Value).ownBlock ∧ some k_ ≠ (.slice Ao65 t119.length co65 : Value).ownBlock ∧ some k_ ≠ (v144 : Value).ownBlock) (Kd.S_old (HO142.out) hb) (fun k_ hk_ => ⟨(by have h1_ := hk_.1.1; have h2_ := hk_.2; omega), hk_.1.2.1, hk_.1.2.2, fun e_ => Nat.not_le.2 hk_.2 (Kd.S_base ho0 k_ e_.symm)⟩)); have n3_ := Aside0.mk (Kd.S_lower (Kd.S_mono (ok' := fun k_ => (BxHO145 ≤ k_) ∧ some k_ ≠ (v111 : Value).ownBlock ∧ some k_ ≠ (.slice Ao65 t119.length co65 : Value).ownBlock ∧ some k_ ≠ (v141 : Value).ownBlock) (Kd.S_bound ho0) (fun k_ hk_ => ⟨(by have h1_ := hk_.2.1; omega), (Kd.fresh' (Kd.R_lt (by (with_reducible repeat (first | apply Kd.R_alloc | apply Kd.R_drewN | apply Kd.R_drew)); exact HO_6.out)) k_ hk_.2.1), (Kd.fresh' (Kd.R_lt (by (with_reducible repeat (first | apply Kd.R_alloc | apply Kd.R_drewN | apply Kd.R_drew)); exact HO_10.out)) k_ hk_.2.1), (Kd.fresh' (Kd.S_lt (by (with_reducible repeat (first | apply Kd.S_alloc | apply Kd.S_drewN | apply Kd.S_drew)); exact HO142.out)) k_ hk_.2.1)⟩)) (below_size (by repeat (first | (with_reducible first | exact HB.out | apply below_alloc | apply pw_below_drewN | apply below_drew1) | exact HB.out)))); have n4_ := Aside0.mk (below_step (by repeat (first | (with_reducible first | exact HB.out | apply below_alloc | apply pw_below_drewN | apply below_drew1) | exact HB.out)) hb); clear HO_6; clear HO_10; clear HO142; clear HB; have HO_6 := n0_; have HO_10 := n1_; have HO142 := n2_; have HO145 := n3_; have HB := n4_; clear n0_ n1_ n2_ n3_ n4_; (try clear hb); (try clear hb2); (try clear hk); (try clear hi); (try clear ho0); obtain ⟨Ao75, co75, eo75⟩ := Kd.S_slice HO142.out; subst eo75; obtain ⟨Ao76, co76, eo76⟩ := Kd.S_slice HO145.out; subst eo76) | ((with_reducible refine gate_callee (f := 48) rfl ?_); refine goesL_ (some 99) rfl rfl Try.func48 (by kernel_rfl) rfl #[.slice Ao75 t140.length co75, .slice Ao76 t143.length co76] rfl (by (try simp only [List.map_toArray, List.map_cons, List.map_nil]); first | done | rfl | (simp only [List.length_drop, List.length_take]; rfl)) ?_; (with_reducible refine (impl_GreedyMatches.calls kj50 _ _ t140 _ _ t143 t146 t147 _ ?side1 ?side2 ?side3 ?side4 A71.out).mono ?_); (case side1 => repeat (first | exact (Kd.S_reads' HO142.out).2.2 | (with_reducible refine Kd.C_alloc ?_ _) | (with_reducible refine Kd.C_drewN ?_ _) | (with_reducible refine Kd.C_drew ?_))); (case side2 => exact (Kd.S_reads' HO142.out).2.1); (case side3 => repeat (first | exact (Kd.S_reads' HO145.out).2.2 | (with_reducible refine Kd.C_alloc ?_ _) | (with_reducible refine Kd.C_drewN ?_ _) | (with_reducible refine Kd.C_drew ?_))); (case side4 => exact (Kd.S_reads' HO145.out).2.1); rintro e w77 ⟨v148, rfl, ho0, hb⟩; refine ⟨_, rfl, ?_⟩; have n0_ := Aside0.mk (Kd.R_elder' (by (with_reducible repeat (first | apply Kd.R_alloc | apply Kd.R_drewN | apply Kd.R_drew)); exact HO_6.out) (Kd.R_base ho0) hb); have n1_ := Aside0.mk (Kd.R_elder' (by (with_reducible repeat (first | apply Kd.R_alloc | apply Kd.R_drewN | apply Kd.R_drew)); exact HO_10.out) (Kd.R_base ho0) hb); have n2_ := Aside0.mk (Kd.S_elder' (by (with_reducible repeat (first | apply Kd.S_alloc | apply Kd.S_drewN | apply Kd.S_drew)); exact HO142.out) (Kd.R_base ho0) hb); have n3_ := Aside0.mk (Kd.S_elder' (by (with_reducible repeat (first | apply Kd.S_alloc | apply Kd.S_drewN | apply Kd.S_drew)); exact HO145.out) (Kd.R_base ho0) hb); have n4_ := Aside0.mk (Kd.R_lower (Kd.R_new' (Kd.R_new' ho0 (Kd.R_lt (by (with_reducible repeat (first | apply Kd.R_alloc | apply Kd.R_drewN | apply Kd.R_drew)); exact HO_6.out))) (Kd.R_lt (by (with_reducible repeat (first | apply Kd.R_alloc | apply Kd.R_drewN | apply Kd.R_drew)); exact HO_10.out))) (below_size (by repeat (first | (with_reducible first | exact HB.out | apply below_alloc | apply pw_below_drewN | apply below_drew1) | exact HB.out)))); have n5_ := Aside0.mk (below_step (by repeat (first | (with_reducible first | exact HB.out | apply below_alloc | apply pw_below_drewN | apply below_drew1) | exact HB.out)) hb); clear HO_6; clear HO_10; clear HO142; clear HO145; clear HB; have HO_6 := n0_; have HO_10 := n1_; have HO142 := n2_; have HO145 := n3_; have HO149 := n4_; have HB := n5_; clear n0_ n1_ n2_ n3_ n4_ n5_; (try clear hb); (try clear hb2); (try clear hk); (try clear hi); (try clear ho0)))
                          (try simp only [Act.put, List.setIfInBounds_toArray, List.set_cons_zero, List.set_cons_succ])
                          go_cut [110] (fun v110 wc => ∃ (kq : Nat) (x110_71 : Bool), v110 = .bool x110_71 ∧ Aside0 (laws_FnExactGreedyMatches.j2 kq t138 t137 x110_71 = some r) ∧ Aside0 (kq ≤ kj50) ∧ Aside0 (Kd.R (Kd.int .i64) 2 wc w.heap.size (fun _ => True) (.slice Ao65 t119.length co65) t138) ∧ Aside0 (Below w.heap.size w wc))
                          case first =>
                            have H := HC72.out
                            clear HC72
                            replace H := Option.bind_eq_some_iff.mp H
                            obtain ⟨t150, A780, H⟩ := H
                            replace H : (if t150 = true then (laws_FnExactGreedyMatches.j2 kj50 t138 t137 (t147 != t110)) else (laws_FnExactGreedyMatches.j2 kj50 t138 t137 true)) = some r := H
                            have A78 := Aside0.mk A780
                            clear A780
                            by_cases c79 : t150 = true
                            · subst c79
                              have H1 : (laws_FnExactGreedyMatches.j2 kj50 t138 t137 (t147 != t110)) = some r := by rw [if_pos rfl] at H; exact H
                              clear H
                              have H := H1
                              clear H1
                              have H' := Aside0.mk H
                              clear H
                              obtain ⟨Ao80, co80, eo80⟩ := Kd.R_slice HO149.out
                              subst eo80
                              obtain ⟨Ao81, co81, eo81⟩ := Kd.R_slice HO_6.out
                              subst eo81
                              go_wp2_with (first | ((with_reducible refine gate_callee (f := 31) rfl ?_); refine goesL_ (some 104) rfl rfl Try.func31 (by kernel_rfl) rfl #[.slice Ao80 t146.length co80, .slice Ao81 t109.length co81] rfl (by (try simp only [List.map_toArray, List.map_cons, List.map_nil]); first | done | rfl | (simp only [List.length_drop, List.length_take]; rfl)) ?_; (with_reducible refine (laws_eqInt64S.calls kj50 _ _ t146 _ _ t109 true _ ?side1 ?side2 ?side3 ?side4 A78.out).mono ?_); (case side1 => repeat (first | exact (Kd.R_reads' HO149.out).2.2 | (with_reducible refine Kd.C_alloc ?_ _) | (with_reducible refine Kd.C_drewN ?_ _) | (with_reducible refine Kd.C_drew ?_))); (case side2 => exact (Kd.R_reads' HO149.out).2.1); (case side3 => repeat (first | exact (Kd.R_reads' HO_6.out).2.2 | (with_reducible refine Kd.C_alloc ?_ _) | (with_reducible refine Kd.C_drewN ?_ _) | (with_reducible refine Kd.C_drew ?_))); (case side4 => exact (Kd.R_reads' HO_6.out).2.1); rintro e w' ⟨rfl, ⟨nd, rfl⟩⟩; refine ⟨_, rfl, ?_⟩; (try (rw [drewN_self w77]; generalize hq_ : World.drewN w77 _ = w77; have n0_ : Aside0 (Kd.S k28 28 w77 w.heap.size (fun k_ => (((BxHO142 ≤ k_ ∧ k_ < BxHO145) ∧ (some k_ ≠ (.slice Ao81 t109.length co81 : Value).ownBlock ∧ (some k_ ≠ (.slice Ao65 t119.length co65 : Value).ownBlock ∧ some k_ ≠ (.slice Ao76 t143.length co76 : Value).ownBlock))) ∧ some k_ ≠ (.slice Ao80 t146.length co80 : Value).ownBlock)) (.slice Ao75 t140.length co75) t140) := ⟨by rw [← hq_]; exact (by (with_reducible repeat (first | apply Kd.S_alloc | apply Kd.S_drewN | apply Kd.S_drew)); exact HO142.out)⟩; have n1_ : Aside0 (Kd.S k28 28 w77 w.heap.size (fun k_ => (((BxHO145 ≤ k_) ∧ (some k_ ≠ (.slice Ao81 t109.length co81 : Value).ownBlock ∧ (some k_ ≠ (.slice Ao65 t119.length co65 : Value).ownBlock ∧ some k_ ≠ (.slice Ao75 t140.length co75 : Value).ownBlock))) ∧ some k_ ≠ (.slice Ao80 t146.length co80 : Value).ownBlock)) (.slice Ao76 t143.length co76) t143) := ⟨by rw [← hq_]; exact (by (with_reducible repeat (first | apply Kd.S_alloc | apply Kd.S_drewN | apply Kd.S_drew)); exact HO145.out)⟩; have n2_ : Aside0 (Kd.R (Kd.int .i64) 2 w77 w.heap.size (fun k_ => ((True ∧ some k_ ≠ (.slice Ao81 t109.length co81 : Value).ownBlock) ∧ some k_ ≠ (.slice Ao65 t119.length co65 : Value).ownBlock)) (.slice Ao80 t146.length co80) t146) := ⟨by rw [← hq_]; exact (by (with_reducible repeat (first | apply Kd.R_alloc | apply Kd.R_drewN | apply Kd.R_drew)); exact HO149.out)⟩; have n3_ : Aside0 (Kd.R (Kd.int .i64) 2 w77 w.heap.size (fun k_ => (some k_ ≠ (.slice Ao81 t109.length co81 : Value).ownBlock ∧ some k_ ≠ (.slice Ao80 t146.length co80 : Value).ownBlock)) (.slice Ao65 t119.length co65) t138) := ⟨by rw [← hq_]; exact (by (with_reducible repeat (first | apply Kd.R_alloc | apply Kd.R_drewN | apply Kd.R_drew)); exact HO_10.out)⟩; have n4_ : Aside0 (Kd.R (Kd.int .i64) 2 w77 w.heap.size (fun k_ => (some k_ ≠ (.slice Ao65 t119.length co65 : Value).ownBlock ∧ some k_ ≠ (.slice Ao80 t146.length co80 : Value).ownBlock)) (.slice Ao81 t109.length co81) t109) := ⟨by rw [← hq_]; exact (by (with_reducible repeat (first | apply Kd.R_alloc | apply Kd.R_drewN | apply Kd.R_drew)); exact HO_6.out)⟩; have n5_ : Aside0 (Below w.heap.size w w77) := ⟨by rw [← hq_]; exact (by repeat (first | (with_reducible first | exact HB.out | apply below_alloc | apply pw_below_drewN | apply below_drew1) | exact HB.out))⟩; clear HO142 HO145 HO149 HO_10 HO_6 HB hq_; have HO142 := n0_; have HO145 := n1_; have HO149 := n2_; have HO_10 := n3_; have HO_6 := n4_; have HB := n5_; clear n0_ n1_ n2_ n3_ n4_ n5_))))
                              go_meet
                              case rel => exact ⟨_, ((t147 != t110)), (by first | rfl | (simp; done) | (simp [*]; done)), H', ⟨by have := HJ16.out; have := HJ50.out; first | omega | exact Nat.le_refl _⟩, ⟨by (with_reducible repeat (first | apply Kd.R_alloc | apply Kd.R_drewN | apply Kd.R_drew)); exact Kd.R_mono HO_10.out (fun _ hk => trivial)⟩, ⟨by repeat (first | (with_reducible first | exact HB.out | apply below_alloc | apply pw_below_drewN | apply below_drew1) | exact HB.out)⟩⟩
                            · replace c79 := Bool.eq_false_iff.mpr c79
                              subst c79
                              have H1 : (laws_FnExactGreedyMatches.j2 kj50 t138 t137 true) = some r := by rw [if_neg (show ¬ (false = true) by decide)] at H; exact H
                              clear H
                              have H := H1
                              clear H1
                              have H' := Aside0.mk H
                              clear H
                              obtain ⟨Ao82, co82, eo82⟩ := Kd.R_slice HO149.out
                              subst eo82
                              obtain ⟨Ao83, co83, eo83⟩ := Kd.R_slice HO_6.out
                              subst eo83
                              go_wp2_with (first | ((with_reducible refine gate_callee (f := 31) rfl ?_); refine goesL_ (some 104) rfl rfl Try.func31 (by kernel_rfl) rfl #[.slice Ao82 t146.length co82, .slice Ao83 t109.length co83] rfl (by (try simp only [List.map_toArray, List.map_cons, List.map_nil]); first | done | rfl | (simp only [List.length_drop, List.length_take]; rfl)) ?_; (with_reducible refine (laws_eqInt64S.calls kj50 _ _ t146 _ _ t109 false _ ?side1 ?side2 ?side3 ?side4 A78.out).mono ?_); (case side1 => repeat (first | exact (Kd.R_reads' HO149.out).2.2 | (with_reducible refine Kd.C_alloc ?_ _) | (with_reducible refine Kd.C_drewN ?_ _) | (with_reducible refine Kd.C_drew ?_))); (case side2 => exact (Kd.R_reads' HO149.out).2.1); (case side3 => repeat (first | exact (Kd.R_reads' HO_6.out).2.2 | (with_reducible refine Kd.C_alloc ?_ _) | (with_reducible refine Kd.C_drewN ?_ _) | (with_reducible refine Kd.C_drew ?_))); (case side4 => exact (Kd.R_reads' HO_6.out).2.1); rintro e w' ⟨rfl, ⟨nd, rfl⟩⟩; refine ⟨_, rfl, ?_⟩; (try (rw [drewN_self w77]; generalize hq_ : World.drewN w77 _ = w77; have n0_ : Aside0 (Kd.S k28 28 w77 w.heap.size (fun k_ => (((BxHO142 ≤ k_ ∧ k_ < BxHO145) ∧ (some k_ ≠ (.slice Ao83 t109.length co83 : Value).ownBlock ∧ (some k_ ≠ (.slice Ao65 t119.length co65 : Value).ownBlock ∧ some k_ ≠ (.slice Ao76 t143.length co76 : Value).ownBlock))) ∧ some k_ ≠ (.slice Ao82 t146.length co82 : Value).ownBlock)) (.slice Ao75 t140.length co75) t140) := ⟨by rw [← hq_]; exact (by (with_reducible repeat (first | apply Kd.S_alloc | apply Kd.S_drewN | apply Kd.S_drew)); exact HO142.out)⟩; have n1_ : Aside0 (Kd.S k28 28 w77 w.heap.size (fun k_ => (((BxHO145 ≤ k_) ∧ (some k_ ≠ (.slice Ao83 t109.length co83 : Value).ownBlock ∧ (some k_ ≠ (.slice Ao65 t119.length co65 : Value).ownBlock ∧ some k_ ≠ (.slice Ao75 t140.length co75 : Value).ownBlock))) ∧ some k_ ≠ (.slice Ao82 t146.length co82 : Value).ownBlock)) (.slice Ao76 t143.length co76) t143) := ⟨by rw [← hq_]; exact (by (with_reducible repeat (first | apply Kd.S_alloc | apply Kd.S_drewN | apply Kd.S_drew)); exact HO145.out)⟩; have n2_ : Aside0 (Kd.R (Kd.int .i64) 2 w77 w.heap.size (fun k_ => ((True ∧ some k_ ≠ (.slice Ao83 t109.length co83 : Value).ownBlock) ∧ some k_ ≠ (.slice Ao65 t119.length co65 : Value).ownBlock)) (.slice Ao82 t146.length co82) t146) := ⟨by rw [← hq_]; exact (by (with_reducible repeat (first | apply Kd.R_alloc | apply Kd.R_drewN | apply Kd.R_drew)); exact HO149.out)⟩; have n3_ : Aside0 (Kd.R (Kd.int .i64) 2 w77 w.heap.size (fun k_ => (some k_ ≠ (.slice Ao83 t109.length co83 : Value).ownBlock ∧ some k_ ≠ (.slice Ao82 t146.length co82 : Value).ownBlock)) (.slice Ao65 t119.length co65) t138) := ⟨by rw [← hq_]; exact (by (with_reducible repeat (first | apply Kd.R_alloc | apply Kd.R_drewN | apply Kd.R_drew)); exact HO_10.out)⟩; have n4_ : Aside0 (Kd.R (Kd.int .i64) 2 w77 w.heap.size (fun k_ => (some k_ ≠ (.slice Ao65 t119.length co65 : Value).ownBlock ∧ some k_ ≠ (.slice Ao82 t146.length co82 : Value).ownBlock)) (.slice Ao83 t109.length co83) t109) := ⟨by rw [← hq_]; exact (by (with_reducible repeat (first | apply Kd.R_alloc | apply Kd.R_drewN | apply Kd.R_drew)); exact HO_6.out)⟩; have n5_ : Aside0 (Below w.heap.size w w77) := ⟨by rw [← hq_]; exact (by repeat (first | (with_reducible first | exact HB.out | apply below_alloc | apply pw_below_drewN | apply below_drew1) | exact HB.out))⟩; clear HO142 HO145 HO149 HO_10 HO_6 HB hq_; have HO142 := n0_; have HO145 := n1_; have HO149 := n2_; have HO_10 := n3_; have HO_6 := n4_; have HB := n5_; clear n0_ n1_ n2_ n3_ n4_ n5_))))
                              go_meet
                              case rel => exact ⟨_, (true), (by first | rfl | (simp; done) | (simp [*]; done)), H', ⟨by have := HJ16.out; have := HJ50.out; first | omega | exact Nat.le_refl _⟩, ⟨by (with_reducible repeat (first | apply Kd.R_alloc | apply Kd.R_drewN | apply Kd.R_drew)); exact Kd.R_mono HO_10.out (fun _ hk => trivial)⟩, ⟨by repeat (first | (with_reducible first | exact HB.out | apply below_alloc | apply pw_below_drewN | apply below_drew1) | exact HB.out)⟩⟩
                          case rest =>
                            clear HC72
                            try clear c1
                            try clear c2
                            try clear p2
                            try clear c3
                            try clear c4
                            try clear c5
                            try clear c6
                            try clear c6b0
                            try clear c6b1
                            try clear c6b2
                            try clear c7
                            try clear c10
                            try clear c10b0
                            try clear c10b1
                            try clear c10b2
                            try clear c11
                            try clear c17
                            try clear c19
                            try clear c21
                            try clear c29
                            try clear c31
                            try clear c34
                            try clear c41
                            try clear c45
                            try clear c46
                            try clear c47
                            try clear c48
                            try clear c54
                            try clear c54b0
                            try clear c54b1
                            try clear c54b2
                            try clear c56
                            try clear c61
                            try clear c67
                            try clear c67b0
                            try clear c67b1
                            try clear c67b2
                            try clear c68
                            try clear c68b0
                            try clear c68b1
                            try clear c79
                            try clear p2
                            obtain ⟨kq, x110_71, rfl, HA, HJ71, HO_10, HB⟩ := hcut
                            have hl10_71 := (Kd.R_reads' HO_10.out).1
                            rw [hl10_71] at HO_10
                            (try simp only [hl10_71])
                            cases kq with
                            | zero => exact absurd HA.out (by simp [laws_FnExactGreedyMatches.j2])
                            | succ kj71 =>
                              have H := HA.out
                              clear HA
                              simp only [laws_FnExactGreedyMatches.j2] at H
                              by_cases c84 : x110_71 = true
                              · subst c84
                                have H1 : (some false) = some r := by rw [if_pos rfl] at H; exact H
                                clear H
                                have H := H1
                                clear H1
                                obtain rfl := Option.some.inj H
                                go_wp2
                                go_ret
                                exact ⟨by first | rfl | (simp [errW_none, errW_some] <;> rfl) | (simp [*, errW_none, errW_some] <;> rfl), by repeat (first | (with_reducible first | exact HB.out | apply below_alloc | apply pw_below_drewN | apply below_drew1) | exact HB.out)⟩
                              · replace c84 := Bool.eq_false_iff.mpr c84
                                subst c84
                                have H1 : ((laws_heldInt64S.f kj71 t138 1).bind fun t151 => (if t151 < 0 then (some false) else (if t151 = t137 then (some true) else (some false)))) = some r := by rw [if_neg (show ¬ (false = true) by decide)] at H; exact H
                                clear H
                                have H := H1
                                clear H1
                                replace H := Option.bind_eq_some_iff.mp H
                                obtain ⟨t151, A850, H⟩ := H
                                replace H : (if t151 < 0 then (some false) else (if t151 = t137 then (some true) else (some false))) = some r := H
                                have A85 := Aside0.mk A850
                                clear A850
                                have HC86 := Aside0.mk H
                                clear H
                                go_upto_if 115 with (first | ((with_reducible refine gate_callee (f := 46) rfl ?_); refine goesL_ (some 113) rfl rfl Try.func46 (by kernel_rfl) rfl #[.slice Ao65 t138.length co65, .int .i64 1] rfl (by (try simp only [List.map_toArray, List.map_cons, List.map_nil]); first | done | rfl | (simp only [List.length_drop, List.length_take]; rfl)) ?_; (with_reducible refine (laws_heldInt64S.calls kj71 _ _ t138 1 t151 _ ?side1 ?side2 A85.out).mono ?_); (case side1 => repeat (first | exact (Kd.R_reads' HO_10.out).2.2 | (with_reducible refine Kd.C_alloc ?_ _) | (with_reducible refine Kd.C_drewN ?_ _) | (with_reducible refine Kd.C_drew ?_))); (case side2 => exact (Kd.R_reads' HO_10.out).2.1); rintro e w' ⟨rfl, ⟨nd, rfl⟩⟩; refine ⟨_, rfl, ?_⟩; (try (rw [drewN_self wc]; generalize hq_ : World.drewN wc _ = wc; have n0_ : Aside0 (Kd.R (Kd.int .i64) 2 wc w.heap.size (fun k_ => True) (.slice Ao65 t138.length co65) t138) := ⟨by rw [← hq_]; exact (by (with_reducible repeat (first | apply Kd.R_alloc | apply Kd.R_drewN | apply Kd.R_drew)); exact HO_10.out)⟩; have n1_ : Aside0 (Below w.heap.size w wc) := ⟨by rw [← hq_]; exact (by repeat (first | (with_reducible first | exact HB.out | apply below_alloc | apply pw_below_drewN | apply below_drew1) | exact HB.out))⟩; clear HO_10 HB hq_; have HO_10 := n0_; have HB := n1_; clear n0_ n1_))))
                                (try simp only [Act.put, List.setIfInBounds_toArray, List.set_cons_zero, List.set_cons_succ])
                                have H := HC86.out
                                clear HC86
                                by_cases c87 : t151 < 0
                                · rw [if_pos c87] at H
                                  have c87b0 : decide (t151 < 0) = true := decide_eq_true c87
                                  clear c87
                                  (first | rw [c87b0] | (simp only [i64_w, i32_w]; rw [c87b0]) | (simp only [c87b2, Bool.not_true, Bool.not_false]) | (simp only [c87b1, Bool.not_true, Bool.not_false]) | (simp only [c87b0, Bool.not_true, Bool.not_false]) | skip)
                                  obtain rfl := Option.some.inj H
                                  go_wp2
                                  go_ret
                                  exact ⟨by first | rfl | (simp [errW_none, errW_some] <;> rfl) | (simp [*, errW_none, errW_some] <;> rfl), by repeat (first | (with_reducible first | exact HB.out | apply below_alloc | apply pw_below_drewN | apply below_drew1) | exact HB.out)⟩
                                · rw [if_neg c87] at H
                                  have c87b0 : decide (t151 < 0) = false := decide_eq_false c87
                                  clear c87
                                  (first | rw [c87b0] | (simp only [i64_w, i32_w]; rw [c87b0]) | (simp only [c87b2, Bool.not_true, Bool.not_false]) | (simp only [c87b1, Bool.not_true, Bool.not_false]) | (simp only [c87b0, Bool.not_true, Bool.not_false]) | skip)
                                  by_cases c88 : t151 = t137
                                  · rw [if_pos c88] at H
                                    have c88b0 : (t151 == t137) = true := beq_iff_eq.mpr c88
                                    have c88b1 : (t151 != t137) = false := bne_eq_false_iff_eq.mpr c88
                                    clear c88
                                    obtain rfl := Option.some.inj H
                                    go_wp2
                                    go_ret
                                    exact ⟨by first | rfl | (simp [errW_none, errW_some] <;> rfl) | (simp [*, errW_none, errW_some] <;> rfl), by repeat (first | (with_reducible first | exact HB.out | apply below_alloc | apply pw_below_drewN | apply below_drew1) | exact HB.out)⟩
                                  · rw [if_neg c88] at H
                                    have c88b0 : (t151 == t137) = false := beq_eq_false_iff_ne.mpr c88
                                    have c88b1 : (t151 != t137) = true := bne_iff_ne.mpr c88
                                    obtain rfl := Option.some.inj H
                                    go_wp2
                                    go_ret
                                    exact ⟨by first | rfl | (simp [errW_none, errW_some] <;> rfl) | (simp [*, errW_none, errW_some] <;> rfl), by repeat (first | (with_reducible first | exact HB.out | apply below_alloc | apply pw_below_drewN | apply below_drew1) | exact HB.out)⟩
                        · rw [if_neg c68] at H
                          have c68b0 : (t139 == t137) = false := beq_eq_false_iff_ne.mpr c68
                          have c68b1 : (t139 != t137) = true := bne_iff_ne.mpr c68
                          obtain rfl := Option.some.inj H
                          go_wp2
                          go_ret
                          exact ⟨by first | rfl | (simp [errW_none, errW_some] <;> rfl) | (simp [*, errW_none, errW_some] <;> rfl), by repeat (first | (with_reducible first | exact HB.out | apply below_alloc | apply pw_below_drewN | apply below_drew1) | exact HB.out)⟩
              · replace c48 := Bool.eq_false_iff.mpr c48
                subst c48
                have H1 : (some false) = some r := by rw [if_neg (show ¬ (false = true) by decide)] at H; exact H
                clear H
                have H := H1
                clear H1
                obtain rfl := Option.some.inj H
                go_wp2
                go_ret
                exact ⟨by first | rfl | (simp [errW_none, errW_some] <;> rfl) | (simp [*, errW_none, errW_some] <;> rfl), by repeat (first | (with_reducible first | exact HB.out | apply below_alloc | apply pw_below_drewN | apply below_drew1) | exact HB.out)⟩
            · replace c41 := Bool.eq_false_iff.mpr c41
              subst c41
              have H1 : (some false) = some r := by rw [if_neg (show ¬ (false = true) by decide)] at H; exact H
              clear H
              have H := H1
              clear H1
              obtain rfl := Option.some.inj H
              go_wp2
              go_ret
              exact ⟨by first | rfl | (simp [errW_none, errW_some] <;> rfl) | (simp [*, errW_none, errW_some] <;> rfl), by repeat (first | (with_reducible first | exact HB.out | apply below_alloc | apply pw_below_drewN | apply below_drew1) | exact HB.out)⟩
end Go.Proofs.Yteafahnopgmgoaa.Q
namespace Go.Proofs.Yteafahnopgmgoaa.Q
open Go.RowKit Go.Proofs.YteafahnopgmgoaaW.PrintWords Go.Proofs.YteafahnopgmgoaaW.PrintLast Go.Proofs.YteafahnopgmgoaaW.PrintMore
attribute [local go_sem] max2_int min2_int max_two min_two max_three min_three max_four min_four
set_option linter.unusedVariables false
set_option linter.unusedSimpArgs false
def laws_FnExactGreedyMatches.Pure : Prop := ∀ (x0 : List (S24)) (x1 : List (S24)), (x0.length ≤ maxLen ∧ ∀ y0 ∈ x0, W24 y0) → (x1.length ≤ maxLen ∧ ∀ y0 ∈ x1, W24 y0) → ∃ k, laws_FnExactGreedyMatches.f k x0 x1 = some true
end Go.Proofs.Yteafahnopgmgoaa.Q
namespace Go.Proofs.Yteafahnopgmgoaa.Q
open Go.RowKit Go.Proofs.YteafahnopgmgoaaW.PrintWords Go.Proofs.YteafahnopgmgoaaW.PrintLast Go.Proofs.YteafahnopgmgoaaW.PrintMore
theorem wr64 {x : Int} (h0 : -9223372036854775808 ≤ x) (h1 : x < 9223372036854775808) : wrap64 x = x := by unfold wrap64; omega
theorem wr64s (i : Nat) (h : (i : Int) < 9223372036854775807) : wrap64 ((i : Int) + 1) = ((i + 1 : Nat) : Int) := by rw [wr64 (by omega) (by omega)]; omega
theorem Ev_suc {α : Type} {g : Nat → Option α} {r : α} (h : Ev (fun k => g (k + 1)) r) : Ev g r := by
  obtain ⟨K, hK⟩ := h
  refine ⟨K + 1, fun k hk => ?_⟩
  obtain ⟨m, rfl⟩ : ∃ m, k = m + 1 := ⟨k - 1, by omega⟩
  exact hK m (by omega)
theorem Ev_t {α : Type} {c : Prop} [Decidable c] {f g : Nat → Option α} {r : α} (h : c) (k : Ev f r) : Ev (fun n => if c then f n else g n) r := by
  obtain ⟨K, hK⟩ := k
  exact ⟨K, fun n hn => (if_pos h).trans (hK n hn)⟩
theorem Ev_f {α : Type} {c : Prop} [Decidable c] {f g : Nat → Option α} {r : α} (h : ¬ c) (k : Ev g r) : Ev (fun n => if c then f n else g n) r := by
  obtain ⟨K, hK⟩ := k
  exact ⟨K, fun n hn => (if_neg h).trans (hK n hn)⟩
theorem Ev_b {α β : Type} {g : Nat → Option α} {f : Nat → α → Option β} {a : α} {r : β} (h : Ev g a) (k : Ev (fun n => f n a) r) : Ev (fun n => (g n).bind (fun x => f n x)) r := Ev.bind h k
theorem Ev_s {α β : Type} {a : α} {f : Nat → α → Option β} {r : β} (k : Ev (fun n => f n a) r) : Ev (fun n => (some a).bind (fun x => f n x)) r := k
theorem Ev_n {α : Type} {a r : α} (h : a = r) : Ev (fun _ => some a) r := ⟨0, fun _ _ => by rw [h]⟩
theorem Ev_c {α : Type} {o : Option α} {r : α} (h : o = some r) : Ev (fun _ => o) r := ⟨0, fun _ _ => h⟩
theorem Ev_at {α : Type} {g : Nat → Option α} {r r' : α} (h : Ev g r) (e : r = r') : Ev g r' := e ▸ h
def cut (c s : Int) : Int := if s ≤ c then c - s else -1
theorem cut_pos {c s : Int} (h : s ≤ c) : cut c s = c - s := by unfold cut; rw [if_pos h]
theorem cut_neg {c s : Int} (h : ¬ s ≤ c) : cut c s = -1 := by unfold cut; rw [if_neg h]
theorem set_take' {α : Type} (xs : List α) (i : Nat) (m : α) (h : i < xs.length) : (xs.set i m).take (i + 1) = xs.take i ++ [m] := by
  rw [List.take_succ_eq_append_getElem (by simpa using h)]
  congr 1
  · rw [List.take_set_of_le (Nat.le_refl _)]
  · simp
theorem getD_in {α : Type} (l : List α) (z : α) (i : Nat) (h : i < l.length) : l.getD ((i : Int).toNat) z = l[i] := by simp [List.getD, h]
theorem getD_at {α : Type} (p q : List α) (z x : α) (i : Nat) (h : p.length = i) : (p ++ x :: q).getD ((i : Int).toNat) z = x := by subst h; simp [List.getD]
theorem set_at {α : Type} (p q : List α) (x y : α) (i : Nat) (h : p.length = i) : (p ++ x :: q).set ((i : Int).toNat) y = p ++ y :: q := by subst h; simp
theorem sum_le {α : Type} (f : α → Nat) : ∀ (l : List α) (x : α), x ∈ l → f x ≤ (l.map f).sum
  | a :: l, x, h => by
    rw [List.map_cons, List.sum_cons]
    rcases List.mem_cons.1 h with rfl | h
    · omega
    · have := sum_le f l x h; omega
end Go.Proofs.Yteafahnopgmgoaa.Q
namespace Go.Proofs.Yteafahnopgmgoaa.Q
open Go.RowKit Go.Proofs.YteafahnopgmgoaaW.PrintWords Go.Proofs.YteafahnopgmgoaaW.PrintLast Go.Proofs.YteafahnopgmgoaaW.PrintMore
theorem markText_ev (c : Int) (h0 : 0 ≤ c) (h1 : c ≤ 1000000000000000000) : ∃ t, Ev (fun k => laws_markText.f k c) t := by
  have go : ∀ (d : Nat) (c : Int) (s : ByteArray), 0 ≤ c → c < 10 ^ d → c ≤ 1000000000000000000 → s.size + d ≤ 1000 → ∃ t, Ev (fun k => laws_markText.l0 k c s) t := by
    intro d
    induction d with
    | zero =>
      intro c s h0 h1 h2 h3
      refine ⟨(⟨#[109]⟩ : ByteArray) ++ s, Ev_suc ?_⟩
      simp only [laws_markText.l0]
      refine Ev_f (by simp at h1; omega) (Ev_t (by omega) (Ev_n rfl))
    | succ d ih =>
      intro c s h0 h1 h2 h3
      by_cases hc : c > 0
      · have e1 : (strOfNums [(wrap64 (48 + Int.tmod c 10)) % 256]).size = 1 := rfl
        have e2 : wrap64 (Int.tdiv c 10) = c / 10 := by rw [Int.tdiv_eq_ediv_of_nonneg h0, wr64 (by omega) (by omega)]
        obtain ⟨t, ht⟩ := ih (c / 10) (strOfNums [(wrap64 (48 + Int.tmod c 10)) % 256] ++ s) (by omega) (by rw [Int.pow_succ] at h1; omega) (by omega) (by rw [ByteArray.size_append, e1]; omega)
        refine ⟨t, Ev_suc ?_⟩
        simp only [laws_markText.l0]
        refine Ev_t hc (Ev_s (Ev_t (by rw [e1]; omega) ?_))
        rw [e2]
        exact ht
      · refine ⟨(⟨#[109]⟩ : ByteArray) ++ s, Ev_suc ?_⟩
        simp only [laws_markText.l0]
        refine Ev_f hc (Ev_t (by omega) (Ev_n rfl))
  by_cases hc : c ≤ 0
  · refine ⟨(⟨#[109, 48]⟩ : ByteArray), ?_⟩
    simp only [laws_markText.f]
    exact Ev_t hc (Ev_n rfl)
  · obtain ⟨t, ht⟩ := go 19 c (⟨#[]⟩ : ByteArray) h0 (by omega) h1 (by simp [ByteArray.size])
    refine ⟨t, ?_⟩
    simp only [laws_markText.f]
    exact Ev_f hc ht
end Go.Proofs.Yteafahnopgmgoaa.Q
namespace Go.Proofs.Yteafahnopgmgoaa.Q
open Go.RowKit Go.Proofs.YteafahnopgmgoaaW.PrintWords Go.Proofs.YteafahnopgmgoaaW.PrintLast Go.Proofs.YteafahnopgmgoaaW.PrintMore
set_option linter.unusedVariables false
theorem rdn_at (a b : List Int) (x : Int) (i : Nat) (h : a.length = i) : rd (a ++ x :: b) (i : Int) = x := by unfold rd; exact getD_at a b _ x i h
theorem eqInt64S_ev' (l : List Int) (hl : (l.length : Int) ≤ 1000000000000) : Ev (fun k => laws_eqInt64S.f k l l) true := by
  have go : ∀ (q p : List Int) (i : Nat), p.length = i → (i : Int) + q.length ≤ 1000000000000 → Ev (fun k => laws_eqInt64S.l0 k (p ++ q) (p ++ q) i) true := by
    intro q
    induction q with
    | nil =>
      intro p i q1 q2
      refine Ev_suc ?_
      simp only [laws_eqInt64S.l0]
      exact Ev_f (by simp; omega) (Ev_n rfl)
    | cons x q ih =>
      intro p i q1 q2
      simp only [List.length_cons] at q2
      refine Ev_suc ?_
      simp only [laws_eqInt64S.l0]
      refine Ev_t (by simp; omega) (Ev_t (by omega) (Ev_t (by simp; omega) (Ev_t True.intro ?_)))
      rw [wr64s i (by omega)]
      have := ih (p ++ [x]) (i + 1) (by simp; omega) (by omega)
      rw [List.append_assoc, List.singleton_append] at this
      exact this
  simp only [laws_eqInt64S.f]
  exact Ev_t True.intro (go l [] 0 rfl (by simpa using hl))
theorem mk_Int64 (l : List Int) (c : Int) (h0 : 0 ≤ c) (h1 : c ≤ 10000000000000000) (hl : (l.length : Int) ≤ 1000000000000) : ∃ l', l'.length = l.length ∧ Ev (fun k => laws_markInt64S.f k l c) (c + 1 * l.length, l') ∧ Ev (fun k => laws_heldInt64S.f k l' c) (c + 1 * l.length) := by
  have go : ∀ (q p : List Int) (i : Nat) (c : Int), p.length = i → 0 ≤ c → c + 1 * q.length ≤ 100000000000000000 → (i : Int) + q.length ≤ 1000000000000 → ∃ q', q'.length = q.length ∧ Ev (fun k => laws_markInt64S.l0 k (p ++ q) c i) (c + 1 * q.length, p ++ q') ∧ ∀ r : List Int, r.length = i → Ev (fun k => laws_heldInt64S.l0 k (r ++ q') c i) (c + 1 * q.length) := by
    intro q
    induction q with
    | nil =>
      intro p i c q1 q2 q3 q4
      refine ⟨[], rfl, Ev_suc ?_, fun r hr => Ev_suc ?_⟩
      · simp only [laws_markInt64S.l0]
        exact Ev_f (by simp; omega) (Ev_n (by simp))
      · simp only [laws_heldInt64S.l0]
        exact Ev_f (by simp; omega) (Ev_n (by simp))
    | cons x q ih =>
      intro p i c q1 q2 q3 q4
      simp only [List.length_cons] at q3 q4
      have e0 : wrap64 (c + 1) = c + 1 := (wr64 (by omega) (by omega)).trans (by omega)
      obtain ⟨q', hq, hm, hh⟩ := ih (p ++ [c]) (i + 1) (c + 1) (by simp; omega) (by omega) (by omega) (by omega)
      refine ⟨c :: q', by simp [hq], Ev_suc ?_, fun r hr => Ev_suc ?_⟩
      · simp only [laws_markInt64S.l0, e0, set_at p q _ _ i q1]
        refine Ev_t (by simp; omega) (Ev_t (by omega) ?_)
        rw [wr64s i (by omega)]
        have hm' := hm
        rw [List.append_assoc, List.singleton_append, List.append_assoc, List.singleton_append] at hm'
        exact Ev_at hm' (by simp only [List.length_cons, Prod.mk.injEq, and_true]; omega)
      · simp only [laws_heldInt64S.l0, e0, rdn_at r q' _ i hr]
        refine Ev_t (by simp; omega) (Ev_t (by omega) (Ev_t True.intro ?_))
        rw [wr64s i (by omega)]
        have hh' := hh (r ++ [c]) (by simp; omega)
        rw [List.append_assoc, List.singleton_append] at hh'
        exact Ev_at hh' (by simp only [List.length_cons]; omega)
  obtain ⟨l', e1, e2, e3⟩ := go l [] 0 c rfl h0 (by omega) (by simpa using hl)
  refine ⟨l', e1, ?_, ?_⟩
  · simp only [laws_markInt64S.f]; exact e2
  · simp only [laws_heldInt64S.f]; exact e3 [] rfl
theorem eq_Int64S (l : List Int) (hl : (l.length : Int) ≤ 1048576) : Ev (fun k => laws_eqInt64S.f k l l) true := eqInt64S_ev' l (by omega)
theorem sz_Int64S (l : List Int) (hl : l.length ≤ maxLen) (c : Int) (h0 : 0 ≤ c) (h1 : c ≤ 1048576) : Ev (fun _ => laws_szInt64S.f l c) (cut c (l.length : Nat)) := by
  have hM : maxLen = 9223372036854775807 := by decide
  rw [hM] at hl
  simp only [laws_szInt64S.f]
  rw [wr64 (x := c - (l.length : Int)) (by omega) (by omega)]
  by_cases g : c - (l.length : Int) < 0
  · rw [cut_neg (by omega)]; exact Ev_t g (Ev_n rfl)
  · rw [cut_pos (by omega)]; exact Ev_f g (Ev_n rfl)
theorem to_Int64S (l : List Int) (hl : (l.length : Int) ≤ 1048576) : Ev (fun k => laws_toInt64S.f k l) l := by
  have go : ∀ (d i : Nat) (xs : List Int), i + d = l.length → xs.length = l.length → xs.take i = l.take i → Ev (fun k => laws_toInt64S.l0 k l xs i) l := by
    intro d
    induction d with
    | zero =>
      intro i xs h1 h2 h3
      refine Ev_suc ?_
      simp only [laws_toInt64S.l0]
      refine Ev_f (by omega) (Ev_n ?_)
      rw [List.take_of_length_le (by omega), List.take_of_length_le (by omega)] at h3
      exact h3
    | succ d ih =>
      intro i xs h1 h2 h3
      refine Ev_suc ?_
      simp only [laws_toInt64S.l0]
      have hi : i < l.length := by omega
      have hr : rd l (i : Int) = l[i] := by unfold rd; exact getD_in l _ i hi
      refine Ev_t (by omega) (Ev_t (by omega) (Ev_t (by omega) ?_))
      rw [wr64s i (by omega), hr, Int.toNat_natCast]
      refine ih (i + 1) _ (by omega) (by simp [h2]) ?_
      rw [set_take' xs i _ (by omega), h3, List.take_succ_eq_append_getElem hi]
  simp only [laws_toInt64S.f]
  refine Ev_t (by omega) (Ev_t (by simpa using (by omega : l.length ≤ 35184372088832)) ?_)
  exact go l.length 0 _ (by omega) (by simp) (by simp)
end Go.Proofs.Yteafahnopgmgoaa.Q
namespace Go.Proofs.Yteafahnopgmgoaa.Q
open Go.RowKit Go.Proofs.YteafahnopgmgoaaW.PrintWords Go.Proofs.YteafahnopgmgoaaW.PrintLast Go.Proofs.YteafahnopgmgoaaW.PrintMore
set_option linter.unusedVariables false
set_option linter.unusedSimpArgs false
theorem rdl_Feature (l : List S24) (i : Nat) (h : i < l.length) : rd_T24 l (i : Int) = l[i] := by unfold rd_T24; exact getD_in l _ i h
theorem rdi_Feature (l : List S28) (i : Nat) (h : i < l.length) : rd_T28 l (i : Int) = l[i] := by unfold rd_T28; exact getD_in l _ i h
def Z_Feature (x : S24) : Nat := x.f0.size + x.f1.length
def ZS_Feature (l : List S24) : Nat := l.length + (l.map Z_Feature).sum
theorem ZS_in_Feature (l : List S24) : l.length ≤ ZS_Feature l ∧ ∀ y ∈ l, Z_Feature y ≤ ZS_Feature l := ⟨by unfold ZS_Feature; omega, fun y hy => by have := sum_le Z_Feature l y hy; unfold ZS_Feature; omega⟩
theorem sz_Feature (x : S24) (hw : W24 x) (c : Int) (h0 : 0 ≤ c) (h1 : c ≤ 1048576) : Ev (fun k => laws_szFeature.f (x.f0) (x.f1) c) (cut c (Z_Feature x)) := by
  have hM : maxLen = 9223372036854775807 := by decide
  unfold W24 at hw
  obtain ⟨w0, w1⟩ := hw
  simp only [laws_szFeature.f]
  have b0 : x.f0.size ≤ maxLen := w0
  rw [hM] at b0
  have e0 : wrap64 (c - ((x.f0.size : Nat) : Int)) = c - ((x.f0.size : Nat) : Int) := wr64 (by omega) (by omega)
  simp only [e0]
  by_cases g0 : c - ((x.f0.size : Nat) : Int) < 0
  · rw [cut_neg (by unfold Z_Feature; omega)]; exact Ev_t g0 (Ev_n rfl)
  refine Ev_f g0 ?_
  obtain ⟨c0, hc0⟩ : ∃ z_, z_ = c - ((x.f0.size : Nat) : Int) := ⟨_, rfl⟩
  simp only [← hc0]
  refine Ev_b (sz_Int64S x.f1 (by first | exact w1.1 | exact w1) c0 (by omega) (by omega)) ?_
  by_cases g1 : ((x.f1.length : Nat) : Int) ≤ c0
  case neg => rw [cut_neg g1, cut_neg (by unfold Z_Feature; omega)]; exact Ev_t (by decide) (Ev_n rfl)
  rw [cut_pos g1]
  refine Ev_f (by omega) ?_
  obtain ⟨c1, hc1⟩ : ∃ z_, z_ = c0 - ((x.f1.length : Nat) : Int) := ⟨_, rfl⟩
  simp only [← hc1]
  rw [cut_pos (by unfold Z_Feature; omega)]
  exact Ev_n (by unfold Z_Feature; omega)
theorem szS_Feature (l : List S24) (hl : l.length ≤ maxLen) (hw : ∀ y ∈ l, W24 y) (c : Int) (h0 : 0 ≤ c) (h1 : c ≤ 1048576) : Ev (fun k => laws_szFeatureS.f k l c) (cut c (ZS_Feature l)) := by
  have hM : maxLen = 9223372036854775807 := by decide
  rw [hM] at hl
  have go : ∀ (d i : Nat) (c : Int), i + d = l.length → l.length ≤ 1048576 → 0 ≤ c → c ≤ 1048576 → Ev (fun k => laws_szFeatureS.l0 k l c i) (cut c (((l.drop i).map Z_Feature).sum : Nat)) := by
    intro d
    induction d with
    | zero =>
      intro i c q1 q2 q3 q4
      refine Ev_suc ?_
      simp only [laws_szFeatureS.l0]
      rw [List.drop_of_length_le (by omega), cut_pos (by simpa using q3)]
      exact Ev_f (by omega) (Ev_n (by simp))
    | succ d ih =>
      intro i c q1 q2 q3 q4
      refine Ev_suc ?_
      simp only [laws_szFeatureS.l0]
      refine Ev_t (by omega) (Ev_t (by omega) ?_)
      rw [rdl_Feature l i (by omega)]
      refine Ev_b (sz_Feature l[i] (hw _ (List.getElem_mem _)) c q3 q4) ?_
      rw [List.drop_eq_getElem_cons (show i < l.length by omega), List.map_cons, List.sum_cons]
      by_cases g : ((Z_Feature l[i] : Nat) : Int) ≤ c
      case neg => rw [cut_neg g, cut_neg (by omega)]; exact Ev_t (by decide) (Ev_n rfl)
      rw [cut_pos g]
      refine Ev_f (by omega) ?_
      rw [wr64s i (by omega)]
      refine Ev_at (ih (i + 1) _ (by omega) q2 (by omega) (by omega)) ?_
      unfold cut
      split <;> split <;> omega
  simp only [laws_szFeatureS.f]
  rw [wr64 (x := c - (l.length : Int)) (by omega) (by omega)]
  by_cases g : c - (l.length : Int) < 0
  · rw [cut_neg (by unfold ZS_Feature; omega)]
    exact Ev_t g (Ev_n rfl)
  · refine Ev_f g (Ev_at (go l.length 0 _ (by omega) (by omega) (by omega) (by omega)) ?_)
    rw [List.drop_zero]
    unfold cut ZS_Feature
    split <;> split <;> omega
def conv_Feature (x : S24) : S28 := ⟨x.f0, x.f1⟩
def B_Feature (x : S24) : Prop := ((x.f1.length : Int) ≤ 1048576)
theorem B_of_Feature (x : S24) (h : (Z_Feature x : Int) ≤ 1048576) : B_Feature x := by
  unfold Z_Feature at h
  unfold B_Feature
  exact by omega
theorem to_Feature (x : S24) (hb : B_Feature x) : Ev (fun k => laws_toFeature.f k (x.f0) (x.f1)) ((conv_Feature x).f0, (conv_Feature x).f1) := by
  unfold B_Feature at hb
  simp only [laws_toFeature.f]
  refine Ev_b (to_Int64S x.f1 hb) ?_
  exact Ev_n rfl
theorem toS_Feature (l : List S24) (hl : (l.length : Int) ≤ 1048576) (hb : ∀ y ∈ l, B_Feature y) : Ev (fun k => laws_toFeatureS.f k l) (l.map conv_Feature) := by
  have go : ∀ (d i : Nat) (xs : List S28), i + d = l.length → xs.length = l.length → xs.take i = (l.map conv_Feature).take i → Ev (fun k => laws_toFeatureS.l0 k l xs i) (l.map conv_Feature) := by
    intro d
    induction d with
    | zero =>
      intro i xs q1 q2 q3
      refine Ev_suc ?_
      simp only [laws_toFeatureS.l0]
      rw [List.take_of_length_le (by omega), List.take_of_length_le (by simp; omega)] at q3
      rw [q3]
      exact Ev_f (by omega) (Ev_n rfl)
    | succ d ih =>
      intro i xs q1 q2 q3
      refine Ev_suc ?_
      simp only [laws_toFeatureS.l0]
      refine Ev_t (by omega) (Ev_t (by omega) ?_)
      rw [rdl_Feature l i (by omega)]
      refine Ev_b (to_Feature l[i] (hb _ (List.getElem_mem _))) ?_
      refine Ev_t (by omega) ?_
      rw [wr64s i (by omega), Int.toNat_natCast]
      refine ih (i + 1) _ (by omega) (by rw [List.length_set]; exact q2) ?_
      rw [set_take' _ _ _ (by omega), q3, List.take_succ_eq_append_getElem (by simp; omega)]
      simp [conv_Feature]
  simp only [laws_toFeatureS.f]
  refine Ev_t (by omega) (Ev_t (by omega) ?_)
  exact go l.length 0 _ (by omega) (by simp) (by simp)
def E_Feature (x : S28) : Prop := ((x.f1.length : Int) ≤ 1048576)
theorem E_of_Feature (x : S24) (hb : B_Feature x) : E_Feature (conv_Feature x) := by
  unfold B_Feature at hb
  unfold E_Feature
  exact by unfold conv_Feature; simpa using hb
theorem eq_Feature (x : S28) (he : E_Feature x) : Ev (fun k => laws_eqFeature.f k (x.f0) (x.f1) (x.f0) (x.f1)) true := by
  unfold E_Feature at he
  simp only [laws_eqFeature.f, if_true]
  refine Ev_b (eq_Int64S x.f1 he) ?_
  simp only [if_true]
  exact Ev_n rfl
theorem eqS_Feature (m : List S28) (hl : (m.length : Int) ≤ 1048576) (he : ∀ y ∈ m, E_Feature y) : Ev (fun k => laws_eqFeatureS.f k m m) true := by
  have go : ∀ (d i : Nat), i + d = m.length → Ev (fun k => laws_eqFeatureS.l0 k m m i) true := by
    intro d
    induction d with
    | zero =>
      intro i q1
      refine Ev_suc ?_
      simp only [laws_eqFeatureS.l0]
      exact Ev_f (by omega) (Ev_n rfl)
    | succ d ih =>
      intro i q1
      refine Ev_suc ?_
      simp only [laws_eqFeatureS.l0]
      refine Ev_t (by omega) (Ev_t (by omega) (Ev_t (by omega) ?_))
      rw [rdi_Feature m i (by omega)]
      refine Ev_b (eq_Feature m[i] (he _ (List.getElem_mem _))) ?_
      rw [wr64s i (by omega)]
      exact Ev_t rfl (ih (i + 1) (by omega))
  simp only [laws_eqFeatureS.f]
  exact Ev_t (by first | trivial | rfl) (go m.length 0 (by omega))
end Go.Proofs.Yteafahnopgmgoaa.Q
namespace Go.Proofs.Yteafahnopgmgoaa.Q
open Go.RowKit Go.Proofs.YteafahnopgmgoaaW.PrintWords Go.Proofs.YteafahnopgmgoaaW.PrintLast Go.Proofs.YteafahnopgmgoaaW.PrintMore
theorem ite_and (b c : Bool) : (if b = true then some c else some false) = some (b && c) := by cases b <;> rfl
theorem in_f (a b c : Int) : spec_l00In.f a b c = some (decide (b ≤ a) && decide (a ≤ c)) := by unfold spec_l00In.f; by_cases h : a ≥ b <;> simp [h]
theorem within_f (a b c : Int) : impl_within.f a b c = some (decide (b ≤ a) && decide (a ≤ c)) := by unfold impl_within.f; by_cases h : a ≥ b <;> simp [h]
theorem w64 {x : Int} (h0 : -9223372036854775808 ≤ x) (h1 : x < 9223372036854775808) : wrap64 x = x := by unfold wrap64; omega
end Go.Proofs.Yteafahnopgmgoaa.Q
namespace Go.Proofs.Yteafahnopgmgoaa.Q
open Go.RowKit Go.Proofs.YteafahnopgmgoaaW.PrintWords Go.Proofs.YteafahnopgmgoaaW.PrintLast Go.Proofs.YteafahnopgmgoaaW.PrintMore
theorem toList_len (x : ByteArray) : x.toList.length = x.size := by
  rw [Go.ByteArray.toList_eq x, Array.length_toList]; rfl
theorem name_round (k : Nat) (x : ByteArray) (i : Int) : spec_l01Name.l0 k x i = impl_IsName.l0 k x i := by
  induction k generalizing i with
  | zero => rfl
  | succ k ih =>
    simp only [spec_l01Name.l0, impl_IsName.l0, ih, spec_l01Small.f, spec_l01Digit.f]
    by_cases h1 : i < (x.size : Int)
    · rw [if_pos h1, if_pos h1]
      by_cases h2 : 0 ≤ i
      · rw [if_pos h2, if_pos h2]
        generalize bt x i = c
        by_cases h3 : c < 97
        · rw [if_pos h3, if_neg (by omega)]
          by_cases h4 : c < 48
          · rw [if_pos h4, if_neg (by omega)]; simp
          · rw [if_neg h4, if_pos (by omega)]
            by_cases h5 : c > 57
            · rw [if_pos h5]; simp [show ¬ c ≤ 57 by omega]
            · rw [if_neg h5]; simp [show c ≤ 57 by omega]
        · rw [if_neg h3, if_pos (show c ≥ 97 by omega)]
          by_cases h4 : c > 122
          · simp [h4, show ¬ c < 48 by omega, show c > 57 by omega, show ¬ c ≤ 122 by omega, show ¬ c ≤ 57 by omega]
          · rw [if_neg h4]; simp [show c ≤ 122 by omega]
      · rw [if_neg h2, if_neg h2]
    · rw [if_neg h1, if_neg h1]
theorem name_same (k : Nat) (x : ByteArray) : spec_l01Name.f k x = impl_IsName.f k x := by
  have hj : ∀ b, spec_l01Name.j0 k x b = impl_IsName.j0 k x b := by
    intro b
    cases k with
    | zero => rfl
    | succ k => simp only [spec_l01Name.j0, impl_IsName.j0, name_round]
  unfold spec_l01Name.f impl_IsName.f spec_l01Small.f
  simp only [hj]
  by_cases h0 : x.toList = []
  · have : x.size = 0 := by rw [← toList_len, h0]; rfl
    rw [if_pos h0, if_pos (by omega)]
  · have : x.size ≠ 0 := by
      intro e; apply h0; apply List.eq_nil_of_length_eq_zero; rw [toList_len, e]
    rw [if_neg h0, if_neg (show ¬ (x.size : Int) < 1 by omega)]
    by_cases h1 : (x.size : Int) > 10
    · rw [if_pos h1, if_pos h1]
    · rw [if_neg h1, if_neg h1, if_pos (show 0 < (x.size : Int) by omega), if_pos (show 0 < (x.size : Int) by omega)]
      generalize bt x 0 = c
      by_cases h3 : c < 97
      · rw [if_pos h3, if_neg (show ¬ c ≥ 97 by omega)]; rfl
      · rw [if_neg h3, if_pos (show c ≥ 97 by omega)]
        simp only [Option.bind_some]
        congr 1
        by_cases h4 : c > 122
        · simp [h4, show ¬ c ≤ 122 by omega]
        · simp [h4, show c ≤ 122 by omega]
theorem name_ev (x : ByteArray) : ∃ b, ∀ k, 12 < k → impl_IsName.f k x = some b := by
  have go : ∀ (d : Nat) (i : Int), 0 ≤ i → i + d = x.size → (x.size : Int) ≤ 10 → ∃ b, ∀ k, d < k → impl_IsName.l0 k x i = some b := by
    intro d
    induction d with
    | zero =>
      intro i h0 h1 _
      refine ⟨true, fun k hk => ?_⟩
      obtain ⟨k, rfl⟩ : ∃ m, k = m + 1 := ⟨k - 1, by omega⟩
      simp only [impl_IsName.l0]
      rw [if_neg (by omega)]
    | succ d ih =>
      intro i h0 h1 h2
      obtain ⟨b, hb⟩ := ih (i + 1) (by omega) (by omega) h2
      by_cases h3 : bt x i < 97
      · by_cases h4 : bt x i < 48
        · refine ⟨false, fun k hk => ?_⟩
          obtain ⟨k, rfl⟩ : ∃ m, k = m + 1 := ⟨k - 1, by omega⟩
          simp only [impl_IsName.l0]
          rw [if_pos (by omega), if_pos h0, if_pos h3, if_pos h4]
        · by_cases h5 : bt x i > 57
          · refine ⟨false, fun k hk => ?_⟩
            obtain ⟨k, rfl⟩ : ∃ m, k = m + 1 := ⟨k - 1, by omega⟩
            simp only [impl_IsName.l0]
            rw [if_pos (by omega), if_pos h0, if_pos h3, if_neg h4, if_pos h5]
          · refine ⟨b, fun k hk => ?_⟩
            obtain ⟨k, rfl⟩ : ∃ m, k = m + 1 := ⟨k - 1, by omega⟩
            simp only [impl_IsName.l0]
            rw [if_pos (by omega), if_pos h0, if_pos h3, if_neg h4, if_neg h5, w64 (by omega) (by omega), hb k (by omega)]
      · by_cases h4 : bt x i > 122
        · refine ⟨false, fun k hk => ?_⟩
          obtain ⟨k, rfl⟩ : ∃ m, k = m + 1 := ⟨k - 1, by omega⟩
          simp only [impl_IsName.l0]
          rw [if_pos (by omega), if_pos h0, if_neg h3, if_pos h4, if_neg (by omega), if_pos (by omega)]
        · refine ⟨b, fun k hk => ?_⟩
          obtain ⟨k, rfl⟩ : ∃ m, k = m + 1 := ⟨k - 1, by omega⟩
          simp only [impl_IsName.l0]
          rw [if_pos (by omega), if_pos h0, if_neg h3, if_neg h4, w64 (by omega) (by omega), hb k (by omega)]
  have hj : ∀ (b : Bool), (b = false → (x.size : Int) ≤ 10) → ∃ c, ∀ k, 12 < k → impl_IsName.j0 k x b = some c := by
    intro b hs
    cases b with
    | true =>
      refine ⟨false, fun k hk => ?_⟩
      obtain ⟨k, rfl⟩ : ∃ m, k = m + 1 := ⟨k - 1, by omega⟩
      simp only [impl_IsName.j0, if_true]
    | false =>
      obtain ⟨c, hc⟩ := go x.size 0 (by omega) (by omega) (hs rfl)
      have := hs rfl
      refine ⟨c, fun k hk => ?_⟩
      obtain ⟨k, rfl⟩ : ∃ m, k = m + 1 := ⟨k - 1, by omega⟩
      simp only [impl_IsName.j0]
      rw [if_neg (by decide), hc k (by omega)]
  unfold impl_IsName.f
  by_cases h1 : (x.size : Int) < 1
  · simp only [if_pos h1]; exact hj true (by intro h; cases h)
  · simp only [if_neg h1]
    by_cases h2 : (x.size : Int) > 10
    · simp only [if_pos h2]; exact hj true (by intro h; cases h)
    · simp only [if_neg h2, if_pos (show 0 < (x.size : Int) by omega)]
      by_cases h3 : bt x 0 < 97
      · simp only [if_pos h3]; exact hj true (by intro h; cases h)
      · simp only [if_neg h3]; exact hj _ (fun _ => by omega)
end Go.Proofs.Yteafahnopgmgoaa.Q
namespace Go.Proofs.Yteafahnopgmgoaa.Q
open Go.RowKit Go.Proofs.YteafahnopgmgoaaW.PrintWords Go.Proofs.YteafahnopgmgoaaW.PrintLast Go.Proofs.YteafahnopgmgoaaW.PrintMore
attribute [local go_sem] max2_int min2_int max_two min_two max_three min_three max_four min_four
set_option linter.unusedVariables false
set_option linter.unusedSimpArgs false
def spec_l00Own.f (l0 : List Int) : Option (List Int) := (some (([] : List Int) : List Int)).bind fun y101 => (if y101.length + l0.length < 17592186044416 then (some (y101 ++ l0)) else (none))
set_option maxHeartbeats 8000000 in
set_option maxRecDepth 100000 in
theorem spec_l00Own.calls (A0 : Option Addr) (c0 : Nat) (l0 : List Int) (r : List Int) (w : World) (hr0 : Kd.C (Kd.int .i64) w A0 l0.length l0) (hc0 : l0.length ≤ c0) (h : spec_l00Own.f l0 = some r) :
    Calls Try.prog 96 #[.slice A0 l0.length c0] w fun e w' => ∃ v0_ : Value, e = .returned (v0_) ∧ Kd.R (Kd.int .i64) 2 w' w.heap.size (fun _ => True) v0_ r ∧ Below w.heap.size w w' := by
  have HR0 := Aside0.mk hr0
  have HC0 := Aside0.mk hc0
  clear hr0 hc0
  have HB := Aside0.mk (Below.refl w.heap.size w)
  have H : ((some (([] : List Int) : List Int)).bind fun y101 => (if y101.length + l0.length < 17592186044416 then (some (y101 ++ l0)) else (none))) = some r := h
  clear h
  obtain ⟨y101, hy101⟩ : ∃ y_ : List Int, y_ = (([] : List Int)) := ⟨_, rfl⟩
  replace H : (if y101.length + l0.length < 17592186044416 then (some (y101 ++ l0)) else (none)) = some r := by first | (rw [hy101]; with_reducible exact H) | (have H2_ := (Option.bind_some _ _).symm.trans H; rw [hy101]; with_reducible exact H2_) | (have H2_ := (Option.bind_some _ _).symm.trans H; with_reducible exact H2_) | with_reducible exact H | (rw [hy101]; exact H) | exact H
  have Ny101 := Aside0.mk hy101
  clear hy101
  by_cases c2 : y101.length + l0.length < 17592186044416
  · rw [if_pos c2] at H
    have LMc2 := Aside0.mk c2
    clear c2
    obtain ⟨y104, hy104⟩ : ∃ y_ : List Int, y_ = (y101 ++ l0) := ⟨_, rfl⟩
    replace H : (some y104) = some r := by first | (rw [hy104]; with_reducible exact H) | (have H2_ := (Option.bind_some _ _).symm.trans H; rw [hy104]; with_reducible exact H2_) | (have H2_ := (Option.bind_some _ _).symm.trans H; with_reducible exact H2_) | with_reducible exact H | (rw [hy104]; exact H) | exact H
    have Ny104 := Aside0.mk hy104
    clear hy104
    obtain rfl := Option.some.inj H
    go_enter Try.func96, Try.ntmps96
    go_wp2_with (first | ((with_reducible refine gate_dst (N := 3) rfl ?_); refine Kd.R_lit (Kd.int .i64) _ 2 ?hg (N := 3) ?hd (xs := ([] : List Int)) (inner := []) (ok := fun _ => True) (okp := fun _ => True) ?hr ?hp (fun _ hk => hk) trivial (Below.refl _ _) (Nat.le_refl _) (by simp) ?_; (case hd => rfl); (case hg => rfl); (case hr => first | (go_simp; done) | (go_simp; rfl)); (case hp => exact (Reps.none _ _)); intro v102 w3 ho4 hb hg_ hnew_; clear hg_ hnew_; (first | rw [← Ny101.out] at ho4 | (simp only [Int.reduceToNat] at ho4; rw [← Ny101.out] at ho4)); have n0_ := Aside0.mk (Kd.R_lower ho4 (below_size (by repeat (first | (with_reducible first | exact HB.out | apply below_alloc | apply pw_below_drewN | apply below_drew1) | exact HB.out)))); have n1_ := Aside0.mk (below_step (by repeat (first | (with_reducible first | exact HB.out | apply below_alloc | apply pw_below_drewN | apply below_drew1) | exact HB.out)) hb); clear HB; have HO103 := n0_; have HB := n1_; clear n0_ n1_; clear hb ho4) | ((with_reducible refine gate_builtin (b := .append) (xs := #[.tmp 3, .tmp 4]) rfl ?_); at_builtin; refine Kd.R_append_rows (Kd.int .i64) (w0 := w) w.heap.size rfl (.tmp 3) (.tmp 4) 22 2 (.int .i64 0) 8 rfl Try.underlying22 info2 rfl (by decide) (by omega) v102 y101 l0 _ _ _ (fun _ => True) (fun _ => False) rfl rfl ?aO ?aR (fun _ _ h => h) (fun _ h => h.elim) ?aF ?aB ?aS ?aL ?_; (case aR => repeat (first | exact (Kd.C_below HR0.out HB.out) | (with_reducible refine Kd.C_alloc ?_ _) | (with_reducible refine Kd.C_drewN ?_ _) | (with_reducible refine Kd.C_drew ?_))); (case aB => exact (by repeat (first | (with_reducible first | exact HB.out | apply below_alloc | apply pw_below_drewN | apply below_drew1) | exact HB.out))); (case aF => exact (fun _ _ => trivial)); (case aO => exact (by (with_reducible repeat (first | apply Kd.R_alloc | apply Kd.R_drewN | apply Kd.R_drew)); exact HO103.out)); (case aS => exact (below_size (by repeat (first | (with_reducible first | exact HB.out | apply below_alloc | apply pw_below_drewN | apply below_drew1) | exact HB.out)))); (case aL => have := LMc2.out; omega); intro v105 w5 ho hb hg hat; rw [← Ny104.out] at ho; have n0_ := Aside0.mk (hb); have n1_ := Aside0.mk (ho); clear HB; clear HO103; have HB := n0_; have HO106 := n1_; clear n0_ n1_; clear ho hb hg hat))
    go_ret
    exact ⟨_, by first | rfl | (simp [errW_none, errW_some] <;> rfl) | (simp [*, errW_none, errW_some] <;> rfl), by (with_reducible repeat (first | apply Kd.R_alloc | apply Kd.R_drewN | apply Kd.R_drew)); exact HO106.out, by repeat (first | (with_reducible first | exact HB.out | apply below_alloc | apply pw_below_drewN | apply below_drew1) | exact HB.out)⟩
  · rw [if_neg c2] at H
    exact absurd H (by simp)
end Go.Proofs.Yteafahnopgmgoaa.Q
