/- For every two lists of features, the law FnExactGreedyMatches returns true: the program matches as the reference does, in memory of its own, and leaves what it was handed as it was. This text holds the last walks, the plain law and the row. -/
import Derived.Test.YteafahnopgmgoaaRows
import Derived.WalkKit
import Derived.ProofKit
import Derived.OpenShut
import Derived.ShutString
import Derived.ChangeOld
import Derived.Below
import Derived.SizedLaws
import Derived.Carry
import Derived.Test.YteafahnopgmgoaaKFnExactGreedyMatchesa
import Derived.Test.YteafahnopgmgoaaKFnExactGreedyMatchesd
import Derived.Test.YteafahnopgmgoaaKFnExactGreedyMatchesb
import Derived.Test.YteafahnopgmgoaaKFnExactGreedyMatchesc
set_option linter.unusedVariables false
set_option linter.unusedSimpArgs false
namespace Go.Proofs.Yteafahnopgmgoaa.Q
open Go.RowKit Go.Proofs.YteafahnopgmgoaaW.PrintWords Go.Proofs.YteafahnopgmgoaaW.PrintLast Go.Proofs.YteafahnopgmgoaaW.PrintMore
attribute [local go_sem] max2_int min2_int max_two min_two max_three min_three max_four min_four
set_option linter.unusedVariables false
set_option linter.unusedSimpArgs false
mutual
def spec_l14Order.l0 : Nat → List Int → List Int → Int → Option (List Int)
  | 0, _, _, _ => none
  | k + 1, x0, x3, x4 => if x4 < (x0.length : Int) then (spec_l14Order.l1 k x0 x3 x4 (x3.length : Int)) else (some x3)
def spec_l14Order.l1 : Nat → List Int → List Int → Int → Int → Option (List Int)
  | 0, _, _, _, _ => none
  | k + 1, x0, x3, x4, x5 => if x5 > 0 then (if 0 ≤ (wrap64 (x5 - 1)) then (if (wrap64 (x5 - 1)) < (x3.length : Int) then (if 0 ≤ (rd x3 (wrap64 (x5 - 1))) then (if (rd x3 (wrap64 (x5 - 1))) < (x0.length : Int) then (if 0 ≤ x4 then (if x4 < (x0.length : Int) then (if (rd x0 (rd x3 (wrap64 (x5 - 1)))) < (rd x0 x4) then (spec_l14Order.l1 k x0 x3 x4 (wrap64 (x5 - 1))) else (if 0 ≤ x5 then (if x5 ≤ (x3.length : Int) then ((spec_l00Own.f (x3.take (x5 : Int).toNat)).bind fun t111 => (if t111.length < 17592186044416 then ((some (t111 ++ [x4] : List Int)).bind fun y114 => ((some (x3.drop (x5 : Int).toNat : List Int)).bind fun y117 => (if y114.length + y117.length < 17592186044416 then (spec_l14Order.l0 k x0 (y114 ++ y117) (wrap64 (x4 + 1))) else (none)))) else (none))) else (none)) else (none))) else (none)) else (none)) else (none)) else (none)) else (none)) else (none)) else (if 0 ≤ x5 then (if x5 ≤ (x3.length : Int) then ((spec_l00Own.f (x3.take (x5 : Int).toNat)).bind fun t128 => (if t128.length < 17592186044416 then ((some (t128 ++ [x4] : List Int)).bind fun y131 => ((some (x3.drop (x5 : Int).toNat : List Int)).bind fun y134 => (if y131.length + y134.length < 17592186044416 then (spec_l14Order.l0 k x0 (y131 ++ y134) (wrap64 (x4 + 1))) else (none)))) else (none))) else (none)) else (none))
end
def spec_l14Order.f (k : Nat) (l0 : List Int) : Option (List Int) := spec_l14Order.l0 k l0 (([] : List Int)) 0
set_option maxHeartbeats 8000000 in
set_option maxRecDepth 100000 in
theorem spec_l14Order.calls (k : Nat) (A0 : Option Addr) (c0 : Nat) (l0 : List Int) (r : List Int) (w : World) (hr0 : Kd.C (Kd.int .i64) w A0 l0.length l0) (hc0 : l0.length ≤ c0) (h : spec_l14Order.f k l0 = some r) :
    Calls Try.prog 74 #[.slice A0 l0.length c0] w fun e w' => ∃ v0_ : Value, e = .returned (v0_) ∧ Kd.R (Kd.int .i64) 2 w' w.heap.size (fun _ => True) v0_ r ∧ Below w.heap.size w w' := by
  have HR0 := Aside0.mk hr0
  have HC0 := Aside0.mk hc0
  clear hr0 hc0
  have HB := Aside0.mk (Below.refl w.heap.size w)
  have H : (spec_l14Order.l0 k l0 (([] : List Int)) 0) = some r := h
  clear h
  obtain ⟨y101, hy101⟩ : ∃ y_ : List Int, y_ = (([] : List Int)) := ⟨_, rfl⟩
  replace H : (spec_l14Order.l0 k l0 y101 0) = some r := by first | (rw [hy101]; with_reducible exact H) | (have H2_ := (Option.bind_some _ _).symm.trans H; rw [hy101]; with_reducible exact H2_) | (have H2_ := (Option.bind_some _ _).symm.trans H; with_reducible exact H2_) | with_reducible exact H | (rw [hy101]; exact H) | exact H
  have Ny101 := Aside0.mk hy101
  clear hy101
  have H' := Aside0.mk H
  clear H
  go_enter Try.func74, Try.ntmps74
  go_wp2_with (first | ((with_reducible refine gate_dst (N := 7) rfl ?_); refine Kd.R_lit (Kd.int .i64) _ 2 ?hg (N := 7) ?hd (xs := ([] : List Int)) (inner := []) (ok := fun _ => True) (okp := fun _ => True) ?hr ?hp (fun _ hk => hk) trivial (Below.refl _ _) (Nat.le_refl _) (by simp) ?_; (case hd => rfl); (case hg => rfl); (case hr => first | (go_simp; done) | (go_simp; rfl)); (case hp => exact (Reps.none _ _)); intro v102 w2 ho3 hb hg_ hnew_; clear hg_ hnew_; (first | rw [← Ny101.out] at ho3 | (simp only [Int.reduceToNat] at ho3; rw [← Ny101.out] at ho3)); have n0_ := Aside0.mk (Kd.R_lower ho3 (below_size (by repeat (first | (with_reducible first | exact HB.out | apply below_alloc | apply pw_below_drewN | apply below_drew1) | exact HB.out)))); have n1_ := Aside0.mk (below_step (by repeat (first | (with_reducible first | exact HB.out | apply below_alloc | apply pw_below_drewN | apply below_drew1) | exact HB.out)) hb); clear HB; have HO103 := n0_; have HB := n1_; clear n0_ n1_; clear hb ho3))
  repeat (go_quiet (first | ((with_reducible refine gate_dst (N := 7) rfl ?_); refine Kd.R_lit (Kd.int .i64) _ 2 ?hg (N := 7) ?hd (xs := ([] : List Int)) (inner := []) (ok := fun _ => True) (okp := fun _ => True) ?hr ?hp (fun _ hk => hk) trivial (Below.refl _ _) (Nat.le_refl _) (by simp) ?_; (case hd => rfl); (case hg => rfl); (case hr => first | (go_simp; done) | (go_simp; rfl)); (case hp => exact (Reps.none _ _)); intro v102 w2 ho3 hb hg_ hnew_; clear hg_ hnew_; (first | rw [← Ny101.out] at ho3 | (simp only [Int.reduceToNat] at ho3; rw [← Ny101.out] at ho3)); have n0_ := Aside0.mk (Kd.R_lower ho3 (below_size (by repeat (first | (with_reducible first | exact HB.out | apply below_alloc | apply pw_below_drewN | apply below_drew1) | exact HB.out)))); have n1_ := Aside0.mk (below_step (by repeat (first | (with_reducible first | exact HB.out | apply below_alloc | apply pw_below_drewN | apply below_drew1) | exact HB.out)) hb); clear HB; have HO103 := n0_; have HB := n1_; clear n0_ n1_; clear hb ho3)); try go_wp2_with (first | ((with_reducible refine gate_dst (N := 7) rfl ?_); refine Kd.R_lit (Kd.int .i64) _ 2 ?hg (N := 7) ?hd (xs := ([] : List Int)) (inner := []) (ok := fun _ => True) (okp := fun _ => True) ?hr ?hp (fun _ hk => hk) trivial (Below.refl _ _) (Nat.le_refl _) (by simp) ?_; (case hd => rfl); (case hg => rfl); (case hr => first | (go_simp; done) | (go_simp; rfl)); (case hp => exact (Reps.none _ _)); intro v102 w2 ho3 hb hg_ hnew_; clear hg_ hnew_; (first | rw [← Ny101.out] at ho3 | (simp only [Int.reduceToNat] at ho3; rw [← Ny101.out] at ho3)); have n0_ := Aside0.mk (Kd.R_lower ho3 (below_size (by repeat (first | (with_reducible first | exact HB.out | apply below_alloc | apply pw_below_drewN | apply below_drew1) | exact HB.out)))); have n1_ := Aside0.mk (below_step (by repeat (first | (with_reducible first | exact HB.out | apply below_alloc | apply pw_below_drewN | apply below_drew1) | exact HB.out)) hb); clear HB; have HO103 := n0_; have HB := n1_; clear n0_ n1_; clear hb ho3)))
  (try simp only [Act.put, List.setIfInBounds_toArray, List.set_cons_zero, List.set_cons_succ])
  go_loopg [3, 4] k (fun kq v3 v4 w' => ∃ (x3_1 : List Int) (x4_1 : Int), v4 = .int .i64 x4_1 ∧ Aside0 (spec_l14Order.l0 kq l0 x3_1 x4_1 = some r) ∧ Aside0 (kq ≤ k) ∧ Aside0 (Kd.R (Kd.int .i64) 2 w' w.heap.size (fun _ => True) v3 x3_1) ∧ Aside0 (Below w.heap.size w w'))
  case atStart => exact ⟨(y101), (0), (by first | rfl | (simp; done) | (simp [*]; done)), H', ⟨Nat.le_refl _⟩, ⟨by (with_reducible repeat (first | apply Kd.R_alloc | apply Kd.R_drewN | apply Kd.R_drew)); exact HO103.out⟩, ⟨by repeat (first | (with_reducible first | exact HB.out | apply below_alloc | apply pw_below_drewN | apply below_drew1) | exact HB.out)⟩⟩
  case round =>
    clear H'
    try clear p2
    obtain ⟨x3_1, x4_1, rfl, HA, HK1, HO_3, HB⟩ := hrel
    cases gk with
    | zero => exact absurd HA.out (by simp [spec_l14Order.l0])
    | succ k1 =>
      have H := HA.out
      clear HA
      simp only [spec_l14Order.l0] at H
      by_cases c4 : x4_1 < (l0.length : Int)
      · rw [if_pos c4] at H
        have c4b0 : decide (x4_1 < (l0.length : Int)) = true := decide_eq_true c4
        clear c4
        have H' := Aside0.mk H
        clear H
        obtain ⟨Ao5, co5, eo5⟩ := Kd.R_slice HO_3.out
        subst eo5
        go_wp2
        repeat (go_quiet (fail); try go_wp2)
        (try simp only [Act.put, List.setIfInBounds_toArray, List.set_cons_zero, List.set_cons_succ])
        go_loopg [5] k1 (fun kq v5 w' => ∃ (x5_2 : Int), v5 = .int .i64 x5_2 ∧ Aside0 (spec_l14Order.l1 kq l0 x3_1 x4_1 x5_2 = some r) ∧ Aside0 (kq ≤ k1) ∧ Aside0 (Kd.R (Kd.int .i64) 2 w' w.heap.size (fun _ => True) (.slice Ao5 x3_1.length co5) x3_1) ∧ Aside0 (Below w.heap.size w w'))
        case atStart => exact ⟨((x3_1.length : Int)), (by first | rfl | (simp; done) | (simp [*]; done)), H', ⟨Nat.le_refl _⟩, ⟨by (with_reducible repeat (first | apply Kd.R_alloc | apply Kd.R_drewN | apply Kd.R_drew)); exact HO_3.out⟩, ⟨by repeat (first | (with_reducible first | exact HB.out | apply below_alloc | apply pw_below_drewN | apply below_drew1) | exact HB.out)⟩⟩
        case round =>
          clear H'
          try clear p2
          try clear c4
          try clear c4b0
          try clear p2
          obtain ⟨x5_2, rfl, HA, HK2, HO_3, HB⟩ := hrel
          cases gk with
          | zero => exact absurd HA.out (by simp [spec_l14Order.l1])
          | succ k2 =>
            have H := HA.out
            clear HA
            simp only [spec_l14Order.l1] at H
            by_cases c6 : x5_2 > 0
            · rw [if_pos c6] at H
              have c6b0 : decide (0 < x5_2) = true := decide_eq_true c6
              clear c6
              obtain ⟨ji7, hji7⟩ : ∃ j_ : Int, (wrap64 (x5_2 - 1)) = j_ := ⟨_, rfl⟩
              replace H : (if 0 ≤ (ji7) then (if (ji7) < (x3_1.length : Int) then (if 0 ≤ (rd x3_1 (ji7)) then (if (rd x3_1 (ji7)) < (l0.length : Int) then (if 0 ≤ x4_1 then (if x4_1 < (l0.length : Int) then (if (rd l0 (rd x3_1 (ji7))) < (rd l0 x4_1) then (spec_l14Order.l1 k2 l0 x3_1 x4_1 ji7) else (if 0 ≤ x5_2 then (if x5_2 ≤ (x3_1.length : Int) then ((spec_l00Own.f (x3_1.take (x5_2 : Int).toNat)).bind fun t111 => (if t111.length < 17592186044416 then ((some (t111 ++ [x4_1] : List Int)).bind fun y114 => ((some (x3_1.drop (x5_2 : Int).toNat : List Int)).bind fun y117 => (if y114.length + y117.length < 17592186044416 then (spec_l14Order.l0 k2 l0 (y114 ++ y117) (wrap64 (x4_1 + 1))) else (none)))) else (none))) else (none)) else (none))) else (none)) else (none)) else (none)) else (none)) else (none)) else (none)) = some r := by first | (rw [hji7] at H; exact H) | (simp only [hji7] at H ⊢; exact H)
              have hji7w : (IntKind.i64.wrap (x5_2 - 1)) = ji7 := (i64_w _).trans hji7
              by_cases c8 : 0 ≤ (ji7)
              · rw [if_pos c8] at H
                have c8b0 : decide (0 ≤ (ji7)) = true := decide_eq_true c8
                clear c8
                by_cases c9 : (ji7) < (x3_1.length : Int)
                · rw [if_pos c9] at H
                  have c9b0 : decide ((ji7) < (x3_1.length : Int)) = true := decide_eq_true c9
                  clear c9
                  by_cases c10 : 0 ≤ (rd x3_1 (ji7))
                  · rw [if_pos c10] at H
                    have c10b0 : decide (0 ≤ (rd x3_1 (ji7))) = true := decide_eq_true c10
                    clear c10
                    by_cases c11 : (rd x3_1 (ji7)) < (l0.length : Int)
                    · rw [if_pos c11] at H
                      have c11b0 : decide ((rd x3_1 (ji7)) < (l0.length : Int)) = true := decide_eq_true c11
                      clear c11
                      by_cases c12 : 0 ≤ x4_1
                      · rw [if_pos c12] at H
                        have c12b0 : decide (0 ≤ x4_1) = true := decide_eq_true c12
                        clear c12
                        by_cases c13 : x4_1 < (l0.length : Int)
                        · rw [if_pos c13] at H
                          have c13b0 : decide (x4_1 < (l0.length : Int)) = true := decide_eq_true c13
                          clear c13
                          by_cases c14 : (rd l0 (rd x3_1 (ji7))) < (rd l0 x4_1)
                          · rw [if_pos c14] at H
                            have c14b0 : decide ((rd l0 (rd x3_1 (ji7))) < (rd l0 x4_1)) = true := decide_eq_true c14
                            clear c14
                            have H' := Aside0.mk H
                            clear H
                            have p104 : 0 ≤ ((ji7) : Int) := of_decide_eq_true (by first | (with_reducible assumption) | assumption)
                            have q104 : (ji7) < (x3_1.length : Int) := of_decide_eq_true (by first | (with_reducible assumption) | assumption)
                            obtain ⟨ad104, e104, hx104_0⟩ := Kd.at_int (Kd.R_reads' HO_3.out).2.2 (ji7) p104 q104
                            cases e104
                            replace p104 := eq_true p104
                            replace q104 := eq_true q104
                            have p105 : 0 ≤ ((rd x3_1 (ji7)) : Int) := of_decide_eq_true (by first | (with_reducible assumption) | assumption)
                            have q105 : (rd x3_1 (ji7)) < (l0.length : Int) := of_decide_eq_true (by first | (with_reducible assumption) | assumption)
                            obtain ⟨ad105, e105, hx105_0⟩ := Kd.at_int HR0.out (rd x3_1 (ji7)) p105 q105
                            cases e105
                            replace hx105_0 := (HB.out.cell (World.block_lt_of_cell? w _ hx105_0)).trans hx105_0
                            replace p105 := eq_true p105
                            replace q105 := eq_true q105
                            have p106 : 0 ≤ (x4_1 : Int) := of_decide_eq_true (by first | (with_reducible assumption) | assumption)
                            have q106 : x4_1 < (l0.length : Int) := of_decide_eq_true (by first | (with_reducible assumption) | assumption)
                            obtain ⟨ad106, e106, hx106_0⟩ := Kd.at_int HR0.out x4_1 p106 q106
                            obtain rfl : ad105 = ad106 := (by injection e106)
                            replace hx106_0 := (HB.out.cell (World.block_lt_of_cell? w _ hx106_0)).trans hx106_0
                            replace p106 := eq_true p106
                            replace q106 := eq_true q106
                            go_wp2
                            repeat (go_quiet (fail); try go_wp2)
                            go_roundg k2
                            case measure => have := HK1.out; have := HK2.out; omega
                            case rel => exact ⟨(ji7), (by first | rfl | (simp; done) | (simp only [← hji7] <;> (first | rfl | simp)) | (simp [*]; done)), H', ⟨by have := HK1.out; have := HK2.out; omega⟩, ⟨by (with_reducible repeat (first | apply Kd.R_alloc | apply Kd.R_drewN | apply Kd.R_drew)); exact HO_3.out⟩, ⟨by repeat (first | (with_reducible first | exact HB.out | apply below_alloc | apply pw_below_drewN | apply below_drew1) | exact HB.out)⟩⟩
                          · rw [if_neg c14] at H
                            have c14b0 : decide ((rd l0 (rd x3_1 (ji7))) < (rd l0 x4_1)) = false := decide_eq_false c14
                            clear c14
                            by_cases c15 : 0 ≤ x5_2
                            · rw [if_pos c15] at H
                              have c15b0 := eq_true c15
                              have c15b1 : decide (0 ≤ x5_2) = true := decide_eq_true c15
                              clear c15
                              by_cases c16 : x5_2 ≤ (x3_1.length : Int)
                              · rw [if_pos c16] at H
                                have c16b0 := eq_true c16
                                have c16b1 : decide (x5_2 ≤ (x3_1.length : Int)) = true := decide_eq_true c16
                                clear c16
                                obtain ⟨y107, hy107⟩ : ∃ y_ : List Int, y_ = (x3_1.take (x5_2 : Int).toNat) := ⟨_, rfl⟩
                                replace H : ((spec_l00Own.f y107).bind fun t111 => (if t111.length < 17592186044416 then ((some (t111 ++ [x4_1] : List Int)).bind fun y114 => ((some (x3_1.drop (x5_2 : Int).toNat : List Int)).bind fun y117 => (if y114.length + y117.length < 17592186044416 then (spec_l14Order.l0 k2 l0 (y114 ++ y117) (wrap64 (x4_1 + 1))) else (none)))) else (none))) = some r := by first | (rw [hy107]; with_reducible exact H) | (have H2_ := (Option.bind_some _ _).symm.trans H; rw [hy107]; with_reducible exact H2_) | (have H2_ := (Option.bind_some _ _).symm.trans H; with_reducible exact H2_) | with_reducible exact H | (rw [hy107]; exact H) | exact H
                                have Ny107 := Aside0.mk hy107
                                clear hy107
                                replace H := Option.bind_eq_some_iff.mp H
                                obtain ⟨t111, A170, H⟩ := H
                                replace H : (if t111.length < 17592186044416 then ((some (t111 ++ [x4_1] : List Int)).bind fun y114 => ((some (x3_1.drop (x5_2 : Int).toNat : List Int)).bind fun y117 => (if y114.length + y117.length < 17592186044416 then (spec_l14Order.l0 k2 l0 (y114 ++ y117) (wrap64 (x4_1 + 1))) else (none)))) else (none)) = some r := H
                                have A17 := Aside0.mk A170
                                clear A170
                                by_cases c18 : t111.length < 17592186044416
                                · rw [if_pos c18] at H
                                  have LMc18 := Aside0.mk c18
                                  clear c18
                                  obtain ⟨y114, hy114⟩ : ∃ y_ : List Int, y_ = (t111 ++ [x4_1]) := ⟨_, rfl⟩
                                  replace H : ((some (x3_1.drop (x5_2 : Int).toNat : List Int)).bind fun y117 => (if y114.length + y117.length < 17592186044416 then (spec_l14Order.l0 k2 l0 (y114 ++ y117) (wrap64 (x4_1 + 1))) else (none))) = some r := by first | (rw [hy114]; with_reducible exact H) | (have H2_ := (Option.bind_some _ _).symm.trans H; rw [hy114]; with_reducible exact H2_) | (have H2_ := (Option.bind_some _ _).symm.trans H; with_reducible exact H2_) | with_reducible exact H | (rw [hy114]; exact H) | exact H
                                  have Ny114 := Aside0.mk hy114
                                  clear hy114
                                  have c19b0 := eq_true (of_decide_eq_true (by first | (with_reducible assumption) | assumption) : 0 ≤ x5_2)
                                  have c20b0 := eq_true (of_decide_eq_true (by first | (with_reducible assumption) | assumption) : x5_2 ≤ (x3_1.length : Int))
                                  obtain ⟨y117, hy117⟩ : ∃ y_ : List Int, y_ = (x3_1.drop (x5_2 : Int).toNat) := ⟨_, rfl⟩
                                  replace H : (if y114.length + y117.length < 17592186044416 then (spec_l14Order.l0 k2 l0 (y114 ++ y117) (wrap64 (x4_1 + 1))) else (none)) = some r := by first | (rw [hy117]; with_reducible exact H) | (have H2_ := (Option.bind_some _ _).symm.trans H; rw [hy117]; with_reducible exact H2_) | (have H2_ := (Option.bind_some _ _).symm.trans H; with_reducible exact H2_) | with_reducible exact H | (rw [hy117]; exact H) | exact H
                                  have Ny117 := Aside0.mk hy117
                                  clear hy117
                                  by_cases c21 : y114.length + y117.length < 17592186044416
                                  · rw [if_pos c21] at H
                                    have LMc21 := Aside0.mk c21
                                    clear c21
                                    obtain ⟨y121, hy121⟩ : ∃ y_ : List Int, y_ = (y114 ++ y117) := ⟨_, rfl⟩
                                    replace H : (spec_l14Order.l0 k2 l0 y121 (wrap64 (x4_1 + 1))) = some r := by first | (rw [hy121]; with_reducible exact H) | (have H2_ := (Option.bind_some _ _).symm.trans H; rw [hy121]; with_reducible exact H2_) | (have H2_ := (Option.bind_some _ _).symm.trans H; with_reducible exact H2_) | with_reducible exact H | (rw [hy121]; exact H) | exact H
                                    have Ny121 := Aside0.mk hy121
                                    clear hy121
                                    have H' := Aside0.mk H
                                    clear H
                                    have p104 : 0 ≤ ((ji7) : Int) := of_decide_eq_true (by first | (with_reducible assumption) | assumption)
                                    have q104 : (ji7) < (x3_1.length : Int) := of_decide_eq_true (by first | (with_reducible assumption) | assumption)
                                    obtain ⟨ad104, e104, hx104_0⟩ := Kd.at_int (Kd.R_reads' HO_3.out).2.2 (ji7) p104 q104
                                    cases e104
                                    replace p104 := eq_true p104
                                    replace q104 := eq_true q104
                                    have p105 : 0 ≤ ((rd x3_1 (ji7)) : Int) := of_decide_eq_true (by first | (with_reducible assumption) | assumption)
                                    have q105 : (rd x3_1 (ji7)) < (l0.length : Int) := of_decide_eq_true (by first | (with_reducible assumption) | assumption)
                                    obtain ⟨ad105, e105, hx105_0⟩ := Kd.at_int HR0.out (rd x3_1 (ji7)) p105 q105
                                    cases e105
                                    replace hx105_0 := (HB.out.cell (World.block_lt_of_cell? w _ hx105_0)).trans hx105_0
                                    replace p105 := eq_true p105
                                    replace q105 := eq_true q105
                                    have p106 : 0 ≤ (x4_1 : Int) := of_decide_eq_true (by first | (with_reducible assumption) | assumption)
                                    have q106 : x4_1 < (l0.length : Int) := of_decide_eq_true (by first | (with_reducible assumption) | assumption)
                                    obtain ⟨ad106, e106, hx106_0⟩ := Kd.at_int HR0.out x4_1 p106 q106
                                    obtain rfl : ad105 = ad106 := (by injection e106)
                                    replace hx106_0 := (HB.out.cell (World.block_lt_of_cell? w _ hx106_0)).trans hx106_0
                                    replace p106 := eq_true p106
                                    replace q106 := eq_true q106
                                    have q22 : (x5_2 : Int) ≤ ((x3_1.length : Int) : Int) := of_decide_eq_true (by first | (with_reducible assumption) | assumption)
                                    obtain ⟨i022, hi022, _, hsz22, _⟩ := info_parts info2
                                    have hroom22 : x3_1.length ≤ co5 := (Kd.R_reads' HO_3.out).2.1
                                    have hC22 : Kd.C (Kd.int .i64) _ (some ad104) x3_1.length x3_1 := (Kd.R_reads' HO_3.out).2.2
                                    have hcut22 := cut_to (P := Try.prog) 22 2 .i64 Try.underlying22 hi022 (some ad104) x3_1.length co5 x5_2 (of_decide_eq_true (by first | (with_reducible assumption) | assumption)) q22 hroom22
                                    have hr22 := Kd.C_take (m := (x5_2 : Int).toNat) hC22 (by omega)
                                    have hy22 : y107.length = (x5_2 : Int).toNat := (by rw [Ny107.out, List.length_take]; omega)
                                    rw [← Ny107.out] at hr22
                                    rw [← hy22] at hcut22
                                    have HR110 := Aside0.mk hr22
                                    have HC110 := Aside0.mk (show y107.length ≤ co5 from by omega)
                                    clear hr22 hC22 hroom22 hi022 hsz22
                                    have KY22 := Aside0.mk hy22
                                    clear hy22
                                    have KL22 := Aside0.mk (show (x5_2 : Int).toNat ≤ x3_1.length from by omega)
                                    replace q22 := eq_true q22
                                    go_wp2_with (first | (go_at_call 96; (with_reducible refine (spec_l00Own.calls _ _ y107 t111 _ ?side1 ?side2 A17.out).mono ?_); (case side1 => repeat (first | exact (by repeat (first | (with_reducible exact HR110.out) | (with_reducible refine Kd.C_alloc ?_ _) | (with_reducible refine Kd.C_drewN ?_ _) | (with_reducible refine Kd.C_drew ?_) | exact HR110.out)) | (with_reducible refine Kd.C_alloc ?_ _) | (with_reducible refine Kd.C_drewN ?_ _) | (with_reducible refine Kd.C_drew ?_))); (case side2 => exact HC110.out); rintro e w23 ⟨v112, rfl, ho0, hb⟩; have n0_ := Aside0.mk (Kd.R_elder' (by (with_reducible repeat (first | apply Kd.R_alloc | apply Kd.R_drewN | apply Kd.R_drew)); exact HO_3.out) (Kd.R_base ho0) hb); have n1_ := Aside0.mk (Kd.R_lower (Kd.R_new' ho0 (Kd.R_lt (by (with_reducible repeat (first | apply Kd.R_alloc | apply Kd.R_drewN | apply Kd.R_drew)); exact HO_3.out))) (below_size (by repeat (first | (with_reducible first | exact HB.out | apply below_alloc | apply pw_below_drewN | apply below_drew1) | exact HB.out)))); have n2_ := Aside0.mk (Kd.C_below (by repeat (first | (with_reducible exact HR110.out) | (with_reducible refine Kd.C_alloc ?_ _) | (with_reducible refine Kd.C_drewN ?_ _) | (with_reducible refine Kd.C_drew ?_) | exact HR110.out)) hb); have n3_ := Aside0.mk (below_step (by repeat (first | (with_reducible first | exact HB.out | apply below_alloc | apply pw_below_drewN | apply below_drew1) | exact HB.out)) hb); clear HO_3; clear HR110; clear HB; have HO_3 := n0_; have HO113 := n1_; have HR110 := n2_; have HB := n3_; clear n0_ n1_ n2_ n3_; (try clear hb); (try clear hb2); (try clear hk); (try clear hi); (try clear ho0)) | ((with_reducible refine gate_builtin (b := .append) (xs := #[.tmp 39, .tmp 41]) rfl ?_); at_builtin; refine Kd.R_append (Kd.int .i64) (w0 := w) w.heap.size rfl (.tmp 39) (.tmp 41) 22 2 (.int .i64 0) 8 rfl Try.underlying22 info2 rfl (by decide) (by omega) v112 t111 x4_1 [.int .i64 x4_1] (fun k_ => some k_ ≠ (.slice (some ad104) x3_1.length co5 : Value).ownBlock) (fun _ => False) rfl rfl ?aP (fun _ hk => hk.elim) ?aF ?aO ?aB ?aS ?aL ?_; (case aP => exact rfl); (case aB => exact (by repeat (first | (with_reducible first | exact HB.out | apply below_alloc | apply pw_below_drewN | apply below_drew1) | exact HB.out))); (case aF => exact (fun k_ hk => Kd.fresh' (Kd.R_lt (by (with_reducible repeat (first | apply Kd.R_alloc | apply Kd.R_drewN | apply Kd.R_drew)); exact HO_3.out)) k_ hk)); (case aO => exact (by (with_reducible repeat (first | apply Kd.R_alloc | apply Kd.R_drewN | apply Kd.R_drew)); exact Kd.R_mono HO113.out (fun _ hk => hk.2))); (case aS => exact (below_size (by repeat (first | (with_reducible first | exact HB.out | apply below_alloc | apply pw_below_drewN | apply below_drew1) | exact HB.out)))); (case aL => have := LMc18.out; omega); intro v115 w24 ho hb hg hat; rw [← Ny114.out] at ho; have n0_ := Aside0.mk (Kd.R_after (ok := (fun _ => True)) (by (with_reducible repeat (first | apply Kd.R_alloc | apply Kd.R_drewN | apply Kd.R_drew)); exact HO_3.out) hg hat); have n1_ := Aside0.mk (hb); have n2_ := Aside0.mk ((show Kd.C (Kd.int .i64) w24 (some ad104) y107.length y107 from by rw [Ny107.out]; exact Kd.C_take (m := (x5_2 : Int).toNat) ((Kd.R_reads' (Kd.R_after (ok := (fun _ => True)) (by (with_reducible repeat (first | apply Kd.R_alloc | apply Kd.R_drewN | apply Kd.R_drew)); exact HO_3.out) hg hat)).2.2) KL22.out)); have n3_ := Aside0.mk (ho); clear HO_3; clear HB; clear HR110; clear HO113; have HO_3 := n0_; have HB := n1_; have HR110 := n2_; have HO116 := n3_; clear n0_ n1_ n2_ n3_; clear ho hb hg hat; have q25 : (x5_2 : Int) ≤ ((x3_1.length : Int) : Int) := of_decide_eq_true (by first | (with_reducible assumption) | assumption); obtain ⟨i025, hi025, _, hsz25, _⟩ := info_parts info2; have hroom25 : x3_1.length ≤ co5 := (Kd.R_reads' HO_3.out).2.1; have hC25 : Kd.C (Kd.int .i64) _ (some ad104) x3_1.length x3_1 := (Kd.R_reads' HO_3.out).2.2; have q025 : (0 : Int) ≤ (x5_2 : Int) := of_decide_eq_true (by first | (with_reducible assumption) | assumption); have hcut25 := cut_from (P := Try.prog) 22 2 .i64 Try.underlying22 hi025 1 hsz25 (some ad104) x3_1.length co5 x5_2 q025 q25; have hr25 := Kd.C_drop (m := (x5_2 : Int).toNat) (c := co5) hC25 (by omega) hroom25; obtain ⟨A25, hA25⟩ : ∃ A1, A1 = (if co5 = (x5_2 : Int).toNat then (some ad104) else ((some ad104) : Option Addr).map (·.add ((x5_2 : Int).toNat * 1))) := ⟨_, rfl⟩; obtain ⟨c25, hc25⟩ : ∃ c1, c1 = co5 - (x5_2 : Int).toNat := ⟨_, rfl⟩; have hy25 : y117.length = x3_1.length - (x5_2 : Int).toNat := (by rw [Ny117.out, List.length_drop] <;> omega); rw [show (x3_1).drop (x5_2 : Int).toNat = y117 from Ny117.out.symm] at hr25; replace hr25 : Kd.C (Kd.int .i64) _ A25 y117.length y117 := (by rw [hA25]; exact hr25); rw [← hy25, ← hA25, ← hc25] at hcut25; have HR120 := Aside0.mk hr25; have HC120 := Aside0.mk (show y117.length ≤ c25 from by rw [hy25, hc25]; exact Nat.sub_le_sub_right hroom25 _); clear hr25 hC25 hroom25 hi025 hsz25 hc25; have KY25 := Aside0.mk hy25; have KA25 := Aside0.mk hA25; clear hy25 hA25; have KL25 := Aside0.mk (show (x5_2 : Int).toNat ≤ x3_1.length from by omega); replace q25 := eq_true q25) | ((with_reducible refine gate_builtin (b := .append) (xs := #[.tmp 43, .tmp 46]) rfl ?_); at_builtin; refine Kd.R_append_rows (Kd.int .i64) (w0 := w) w.heap.size rfl (.tmp 43) (.tmp 46) 22 2 (.int .i64 0) 8 rfl Try.underlying22 info2 rfl (by decide) (by omega) v115 y114 y117 _ _ _ (fun k_ => some k_ ≠ (.slice (some ad104) x3_1.length co5 : Value).ownBlock) (fun _ => False) rfl rfl ?aO ?aR (fun _ _ h => h) (fun _ h => h.elim) ?aF ?aB ?aS ?aL ?_; (case aR => repeat (first | exact (by repeat (first | (with_reducible exact HR120.out) | (with_reducible refine Kd.C_alloc ?_ _) | (with_reducible refine Kd.C_drewN ?_ _) | (with_reducible refine Kd.C_drew ?_) | exact HR120.out)) | (with_reducible refine Kd.C_alloc ?_ _) | (with_reducible refine Kd.C_drewN ?_ _) | (with_reducible refine Kd.C_drew ?_))); (case aB => exact (by repeat (first | (with_reducible first | exact HB.out | apply below_alloc | apply pw_below_drewN | apply below_drew1) | exact HB.out))); (case aF => exact (fun k_ hk => Kd.fresh' (Kd.R_lt (by (with_reducible repeat (first | apply Kd.R_alloc | apply Kd.R_drewN | apply Kd.R_drew)); exact HO_3.out)) k_ hk)); (case aO => exact (by (with_reducible repeat (first | apply Kd.R_alloc | apply Kd.R_drewN | apply Kd.R_drew)); exact HO116.out)); (case aS => exact (below_size (by repeat (first | (with_reducible first | exact HB.out | apply below_alloc | apply pw_below_drewN | apply below_drew1) | exact HB.out)))); (case aL => have := LMc21.out; omega); intro v122 w26 ho hb hg hat; rw [← Ny121.out] at ho; have n0_ := Aside0.mk (Kd.R_after (ok := (fun _ => True)) (by (with_reducible repeat (first | apply Kd.R_alloc | apply Kd.R_drewN | apply Kd.R_drew)); exact HO_3.out) hg hat); have n1_ := Aside0.mk (hb); have n2_ := Aside0.mk ((show Kd.C (Kd.int .i64) w26 (some ad104) y107.length y107 from by rw [Ny107.out]; exact Kd.C_take (m := (x5_2 : Int).toNat) ((Kd.R_reads' (Kd.R_after (ok := (fun _ => True)) (by (with_reducible repeat (first | apply Kd.R_alloc | apply Kd.R_drewN | apply Kd.R_drew)); exact HO_3.out) hg hat)).2.2) KL22.out)); have n3_ := Aside0.mk ((show Kd.C (Kd.int .i64) w26 A25 y117.length y117 from by rw [Ny117.out, KA25.out]; exact Kd.C_drop (m := (x5_2 : Int).toNat) (c := co5) ((Kd.R_reads' (Kd.R_after (ok := (fun _ => True)) (by (with_reducible repeat (first | apply Kd.R_alloc | apply Kd.R_drewN | apply Kd.R_drew)); exact HO_3.out) hg hat)).2.2) KL25.out ((Kd.R_reads' (Kd.R_after (ok := (fun _ => True)) (by (with_reducible repeat (first | apply Kd.R_alloc | apply Kd.R_drewN | apply Kd.R_drew)); exact HO_3.out) hg hat)).2.1))); have n4_ := Aside0.mk (ho); clear HO_3; clear HB; clear HR110; clear HR120; clear HO116; have HO_3 := n0_; have HB := n1_; have HR110 := n2_; have HR120 := n3_; have HO123 := n4_; clear n0_ n1_ n2_ n3_ n4_; clear ho hb hg hat))
                                    repeat (go_quiet (first | (go_at_call 96; (with_reducible refine (spec_l00Own.calls _ _ y107 t111 _ ?side1 ?side2 A17.out).mono ?_); (case side1 => repeat (first | exact (by repeat (first | (with_reducible exact HR110.out) | (with_reducible refine Kd.C_alloc ?_ _) | (with_reducible refine Kd.C_drewN ?_ _) | (with_reducible refine Kd.C_drew ?_) | exact HR110.out)) | (with_reducible refine Kd.C_alloc ?_ _) | (with_reducible refine Kd.C_drewN ?_ _) | (with_reducible refine Kd.C_drew ?_))); (case side2 => exact HC110.out); rintro e w23 ⟨v112, rfl, ho0, hb⟩; have n0_ := Aside0.mk (Kd.R_elder' (by (with_reducible repeat (first | apply Kd.R_alloc | apply Kd.R_drewN | apply Kd.R_drew)); exact HO_3.out) (Kd.R_base ho0) hb); have n1_ := Aside0.mk (Kd.R_lower (Kd.R_new' ho0 (Kd.R_lt (by (with_reducible repeat (first | apply Kd.R_alloc | apply Kd.R_drewN | apply Kd.R_drew)); exact HO_3.out))) (below_size (by repeat (first | (with_reducible first | exact HB.out | apply below_alloc | apply pw_below_drewN | apply below_drew1) | exact HB.out)))); have n2_ := Aside0.mk (Kd.C_below (by repeat (first | (with_reducible exact HR110.out) | (with_reducible refine Kd.C_alloc ?_ _) | (with_reducible refine Kd.C_drewN ?_ _) | (with_reducible refine Kd.C_drew ?_) | exact HR110.out)) hb); have n3_ := Aside0.mk (below_step (by repeat (first | (with_reducible first | exact HB.out | apply below_alloc | apply pw_below_drewN | apply below_drew1) | exact HB.out)) hb); clear HO_3; clear HR110; clear HB; have HO_3 := n0_; have HO113 := n1_; have HR110 := n2_; have HB := n3_; clear n0_ n1_ n2_ n3_; (try clear hb); (try clear hb2); (try clear hk); (try clear hi); (try clear ho0)) | ((with_reducible refine gate_builtin (b := .append) (xs := #[.tmp 39, .tmp 41]) rfl ?_); at_builtin; refine Kd.R_append (Kd.int .i64) (w0 := w) w.heap.size rfl (.tmp 39) (.tmp 41) 22 2 (.int .i64 0) 8 rfl Try.underlying22 info2 rfl (by decide) (by omega) v112 t111 x4_1 [.int .i64 x4_1] (fun k_ => some k_ ≠ (.slice (some ad104) x3_1.length co5 : Value).ownBlock) (fun _ => False) rfl rfl ?aP (fun _ hk => hk.elim) ?aF ?aO ?aB ?aS ?aL ?_; (case aP => exact rfl); (case aB => exact (by repeat (first | (with_reducible first | exact HB.out | apply below_alloc | apply pw_below_drewN | apply below_drew1) | exact HB.out))); (case aF => exact (fun k_ hk => Kd.fresh' (Kd.R_lt (by (with_reducible repeat (first | apply Kd.R_alloc | apply Kd.R_drewN | apply Kd.R_drew)); exact HO_3.out)) k_ hk)); (case aO => exact (by (with_reducible repeat (first | apply Kd.R_alloc | apply Kd.R_drewN | apply Kd.R_drew)); exact Kd.R_mono HO113.out (fun _ hk => hk.2))); (case aS => exact (below_size (by repeat (first | (with_reducible first | exact HB.out | apply below_alloc | apply pw_below_drewN | apply below_drew1) | exact HB.out)))); (case aL => have := LMc18.out; omega); intro v115 w24 ho hb hg hat; rw [← Ny114.out] at ho; have n0_ := Aside0.mk (Kd.R_after (ok := (fun _ => True)) (by (with_reducible repeat (first | apply Kd.R_alloc | apply Kd.R_drewN | apply Kd.R_drew)); exact HO_3.out) hg hat); have n1_ := Aside0.mk (hb); have n2_ := Aside0.mk ((show Kd.C (Kd.int .i64) w24 (some ad104) y107.length y107 from by rw [Ny107.out]; exact Kd.C_take (m := (x5_2 : Int).toNat) ((Kd.R_reads' (Kd.R_after (ok := (fun _ => True)) (by (with_reducible repeat (first | apply Kd.R_alloc | apply Kd.R_drewN | apply Kd.R_drew)); exact HO_3.out) hg hat)).2.2) KL22.out)); have n3_ := Aside0.mk (ho); clear HO_3; clear HB; clear HR110; clear HO113; have HO_3 := n0_; have HB := n1_; have HR110 := n2_; have HO116 := n3_; clear n0_ n1_ n2_ n3_; clear ho hb hg hat; have q25 : (x5_2 : Int) ≤ ((x3_1.length : Int) : Int) := of_decide_eq_true (by first | (with_reducible assumption) | assumption); obtain ⟨i025, hi025, _, hsz25, _⟩ := info_parts info2; have hroom25 : x3_1.length ≤ co5 := (Kd.R_reads' HO_3.out).2.1; have hC25 : Kd.C (Kd.int .i64) _ (some ad104) x3_1.length x3_1 := (Kd.R_reads' HO_3.out).2.2; have q025 : (0 : Int) ≤ (x5_2 : Int) := of_decide_eq_true (by first | (with_reducible assumption) | assumption); have hcut25 := cut_from (P := Try.prog) 22 2 .i64 Try.underlying22 hi025 1 hsz25 (some ad104) x3_1.length co5 x5_2 q025 q25; have hr25 := Kd.C_drop (m := (x5_2 : Int).toNat) (c := co5) hC25 (by omega) hroom25; obtain ⟨A25, hA25⟩ : ∃ A1, A1 = (if co5 = (x5_2 : Int).toNat then (some ad104) else ((some ad104) : Option Addr).map (·.add ((x5_2 : Int).toNat * 1))) := ⟨_, rfl⟩; obtain ⟨c25, hc25⟩ : ∃ c1, c1 = co5 - (x5_2 : Int).toNat := ⟨_, rfl⟩; have hy25 : y117.length = x3_1.length - (x5_2 : Int).toNat := (by rw [Ny117.out, List.length_drop] <;> omega); rw [show (x3_1).drop (x5_2 : Int).toNat = y117 from Ny117.out.symm] at hr25; replace hr25 : Kd.C (Kd.int .i64) _ A25 y117.length y117 := (by rw [hA25]; exact hr25); rw [← hy25, ← hA25, ← hc25] at hcut25; have HR120 := Aside0.mk hr25; have HC120 := Aside0.mk (show y117.length ≤ c25 from by rw [hy25, hc25]; exact Nat.sub_le_sub_right hroom25 _); clear hr25 hC25 hroom25 hi025 hsz25 hc25; have KY25 := Aside0.mk hy25; have KA25 := Aside0.mk hA25; clear hy25 hA25; have KL25 := Aside0.mk (show (x5_2 : Int).toNat ≤ x3_1.length from by omega); replace q25 := eq_true q25) | ((with_reducible refine gate_builtin (b := .append) (xs := #[.tmp 43, .tmp 46]) rfl ?_); at_builtin; refine Kd.R_append_rows (Kd.int .i64) (w0 := w) w.heap.size rfl (.tmp 43) (.tmp 46) 22 2 (.int .i64 0) 8 rfl Try.underlying22 info2 rfl (by decide) (by omega) v115 y114 y117 _ _ _ (fun k_ => some k_ ≠ (.slice (some ad104) x3_1.length co5 : Value).ownBlock) (fun _ => False) rfl rfl ?aO ?aR (fun _ _ h => h) (fun _ h => h.elim) ?aF ?aB ?aS ?aL ?_; (case aR => repeat (first | exact (by repeat (first | (with_reducible exact HR120.out) | (with_reducible refine Kd.C_alloc ?_ _) | (with_reducible refine Kd.C_drewN ?_ _) | (with_reducible refine Kd.C_drew ?_) | exact HR120.out)) | (with_reducible refine Kd.C_alloc ?_ _) | (with_reducible refine Kd.C_drewN ?_ _) | (with_reducible refine Kd.C_drew ?_))); (case aB => exact (by repeat (first | (with_reducible first | exact HB.out | apply below_alloc | apply pw_below_drewN | apply below_drew1) | exact HB.out))); (case aF => exact (fun k_ hk => Kd.fresh' (Kd.R_lt (by (with_reducible repeat (first | apply Kd.R_alloc | apply Kd.R_drewN | apply Kd.R_drew)); exact HO_3.out)) k_ hk)); (case aO => exact (by (with_reducible repeat (first | apply Kd.R_alloc | apply Kd.R_drewN | apply Kd.R_drew)); exact HO116.out)); (case aS => exact (below_size (by repeat (first | (with_reducible first | exact HB.out | apply below_alloc | apply pw_below_drewN | apply below_drew1) | exact HB.out)))); (case aL => have := LMc21.out; omega); intro v122 w26 ho hb hg hat; rw [← Ny121.out] at ho; have n0_ := Aside0.mk (Kd.R_after (ok := (fun _ => True)) (by (with_reducible repeat (first | apply Kd.R_alloc | apply Kd.R_drewN | apply Kd.R_drew)); exact HO_3.out) hg hat); have n1_ := Aside0.mk (hb); have n2_ := Aside0.mk ((show Kd.C (Kd.int .i64) w26 (some ad104) y107.length y107 from by rw [Ny107.out]; exact Kd.C_take (m := (x5_2 : Int).toNat) ((Kd.R_reads' (Kd.R_after (ok := (fun _ => True)) (by (with_reducible repeat (first | apply Kd.R_alloc | apply Kd.R_drewN | apply Kd.R_drew)); exact HO_3.out) hg hat)).2.2) KL22.out)); have n3_ := Aside0.mk ((show Kd.C (Kd.int .i64) w26 A25 y117.length y117 from by rw [Ny117.out, KA25.out]; exact Kd.C_drop (m := (x5_2 : Int).toNat) (c := co5) ((Kd.R_reads' (Kd.R_after (ok := (fun _ => True)) (by (with_reducible repeat (first | apply Kd.R_alloc | apply Kd.R_drewN | apply Kd.R_drew)); exact HO_3.out) hg hat)).2.2) KL25.out ((Kd.R_reads' (Kd.R_after (ok := (fun _ => True)) (by (with_reducible repeat (first | apply Kd.R_alloc | apply Kd.R_drewN | apply Kd.R_drew)); exact HO_3.out) hg hat)).2.1))); have n4_ := Aside0.mk (ho); clear HO_3; clear HB; clear HR110; clear HR120; clear HO116; have HO_3 := n0_; have HB := n1_; have HR110 := n2_; have HR120 := n3_; have HO123 := n4_; clear n0_ n1_ n2_ n3_ n4_; clear ho hb hg hat)); try go_wp2_with (first | (go_at_call 96; (with_reducible refine (spec_l00Own.calls _ _ y107 t111 _ ?side1 ?side2 A17.out).mono ?_); (case side1 => repeat (first | exact (by repeat (first | (with_reducible exact HR110.out) | (with_reducible refine Kd.C_alloc ?_ _) | (with_reducible refine Kd.C_drewN ?_ _) | (with_reducible refine Kd.C_drew ?_) | exact HR110.out)) | (with_reducible refine Kd.C_alloc ?_ _) | (with_reducible refine Kd.C_drewN ?_ _) | (with_reducible refine Kd.C_drew ?_))); (case side2 => exact HC110.out); rintro e w23 ⟨v112, rfl, ho0, hb⟩; have n0_ := Aside0.mk (Kd.R_elder' (by (with_reducible repeat (first | apply Kd.R_alloc | apply Kd.R_drewN | apply Kd.R_drew)); exact HO_3.out) (Kd.R_base ho0) hb); have n1_ := Aside0.mk (Kd.R_lower (Kd.R_new' ho0 (Kd.R_lt (by (with_reducible repeat (first | apply Kd.R_alloc | apply Kd.R_drewN | apply Kd.R_drew)); exact HO_3.out))) (below_size (by repeat (first | (with_reducible first | exact HB.out | apply below_alloc | apply pw_below_drewN | apply below_drew1) | exact HB.out)))); have n2_ := Aside0.mk (Kd.C_below (by repeat (first | (with_reducible exact HR110.out) | (with_reducible refine Kd.C_alloc ?_ _) | (with_reducible refine Kd.C_drewN ?_ _) | (with_reducible refine Kd.C_drew ?_) | exact HR110.out)) hb); have n3_ := Aside0.mk (below_step (by repeat (first | (with_reducible first | exact HB.out | apply below_alloc | apply pw_below_drewN | apply below_drew1) | exact HB.out)) hb); clear HO_3; clear HR110; clear HB; have HO_3 := n0_; have HO113 := n1_; have HR110 := n2_; have HB := n3_; clear n0_ n1_ n2_ n3_; (try clear hb); (try clear hb2); (try clear hk); (try clear hi); (try clear ho0)) | ((with_reducible refine gate_builtin (b := .append) (xs := #[.tmp 39, .tmp 41]) rfl ?_); at_builtin; refine Kd.R_append (Kd.int .i64) (w0 := w) w.heap.size rfl (.tmp 39) (.tmp 41) 22 2 (.int .i64 0) 8 rfl Try.underlying22 info2 rfl (by decide) (by omega) v112 t111 x4_1 [.int .i64 x4_1] (fun k_ => some k_ ≠ (.slice (some ad104) x3_1.length co5 : Value).ownBlock) (fun _ => False) rfl rfl ?aP (fun _ hk => hk.elim) ?aF ?aO ?aB ?aS ?aL ?_; (case aP => exact rfl); (case aB => exact (by repeat (first | (with_reducible first | exact HB.out | apply below_alloc | apply pw_below_drewN | apply below_drew1) | exact HB.out))); (case aF => exact (fun k_ hk => Kd.fresh' (Kd.R_lt (by (with_reducible repeat (first | apply Kd.R_alloc | apply Kd.R_drewN | apply Kd.R_drew)); exact HO_3.out)) k_ hk)); (case aO => exact (by (with_reducible repeat (first | apply Kd.R_alloc | apply Kd.R_drewN | apply Kd.R_drew)); exact Kd.R_mono HO113.out (fun _ hk => hk.2))); (case aS => exact (below_size (by repeat (first | (with_reducible first | exact HB.out | apply below_alloc | apply pw_below_drewN | apply below_drew1) | exact HB.out)))); (case aL => have := LMc18.out; omega); intro v115 w24 ho hb hg hat; rw [← Ny114.out] at ho; have n0_ := Aside0.mk (Kd.R_after (ok := (fun _ => True)) (by (with_reducible repeat (first | apply Kd.R_alloc | apply Kd.R_drewN | apply Kd.R_drew)); exact HO_3.out) hg hat); have n1_ := Aside0.mk (hb); have n2_ := Aside0.mk ((show Kd.C (Kd.int .i64) w24 (some ad104) y107.length y107 from by rw [Ny107.out]; exact Kd.C_take (m := (x5_2 : Int).toNat) ((Kd.R_reads' (Kd.R_after (ok := (fun _ => True)) (by (with_reducible repeat (first | apply Kd.R_alloc | apply Kd.R_drewN | apply Kd.R_drew)); exact HO_3.out) hg hat)).2.2) KL22.out)); have n3_ := Aside0.mk (ho); clear HO_3; clear HB; clear HR110; clear HO113; have HO_3 := n0_; have HB := n1_; have HR110 := n2_; have HO116 := n3_; clear n0_ n1_ n2_ n3_; clear ho hb hg hat; have q25 : (x5_2 : Int) ≤ ((x3_1.length : Int) : Int) := of_decide_eq_true (by first | (with_reducible assumption) | assumption); obtain ⟨i025, hi025, _, hsz25, _⟩ := info_parts info2; have hroom25 : x3_1.length ≤ co5 := (Kd.R_reads' HO_3.out).2.1; have hC25 : Kd.C (Kd.int .i64) _ (some ad104) x3_1.length x3_1 := (Kd.R_reads' HO_3.out).2.2; have q025 : (0 : Int) ≤ (x5_2 : Int) := of_decide_eq_true (by first | (with_reducible assumption) | assumption); have hcut25 := cut_from (P := Try.prog) 22 2 .i64 Try.underlying22 hi025 1 hsz25 (some ad104) x3_1.length co5 x5_2 q025 q25; have hr25 := Kd.C_drop (m := (x5_2 : Int).toNat) (c := co5) hC25 (by omega) hroom25; obtain ⟨A25, hA25⟩ : ∃ A1, A1 = (if co5 = (x5_2 : Int).toNat then (some ad104) else ((some ad104) : Option Addr).map (·.add ((x5_2 : Int).toNat * 1))) := ⟨_, rfl⟩; obtain ⟨c25, hc25⟩ : ∃ c1, c1 = co5 - (x5_2 : Int).toNat := ⟨_, rfl⟩; have hy25 : y117.length = x3_1.length - (x5_2 : Int).toNat := (by rw [Ny117.out, List.length_drop] <;> omega); rw [show (x3_1).drop (x5_2 : Int).toNat = y117 from Ny117.out.symm] at hr25; replace hr25 : Kd.C (Kd.int .i64) _ A25 y117.length y117 := (by rw [hA25]; exact hr25); rw [← hy25, ← hA25, ← hc25] at hcut25; have HR120 := Aside0.mk hr25; have HC120 := Aside0.mk (show y117.length ≤ c25 from by rw [hy25, hc25]; exact Nat.sub_le_sub_right hroom25 _); clear hr25 hC25 hroom25 hi025 hsz25 hc25; have KY25 := Aside0.mk hy25; have KA25 := Aside0.mk hA25; clear hy25 hA25; have KL25 := Aside0.mk (show (x5_2 : Int).toNat ≤ x3_1.length from by omega); replace q25 := eq_true q25) | ((with_reducible refine gate_builtin (b := .append) (xs := #[.tmp 43, .tmp 46]) rfl ?_); at_builtin; refine Kd.R_append_rows (Kd.int .i64) (w0 := w) w.heap.size rfl (.tmp 43) (.tmp 46) 22 2 (.int .i64 0) 8 rfl Try.underlying22 info2 rfl (by decide) (by omega) v115 y114 y117 _ _ _ (fun k_ => some k_ ≠ (.slice (some ad104) x3_1.length co5 : Value).ownBlock) (fun _ => False) rfl rfl ?aO ?aR (fun _ _ h => h) (fun _ h => h.elim) ?aF ?aB ?aS ?aL ?_; (case aR => repeat (first | exact (by repeat (first | (with_reducible exact HR120.out) | (with_reducible refine Kd.C_alloc ?_ _) | (with_reducible refine Kd.C_drewN ?_ _) | (with_reducible refine Kd.C_drew ?_) | exact HR120.out)) | (with_reducible refine Kd.C_alloc ?_ _) | (with_reducible refine Kd.C_drewN ?_ _) | (with_reducible refine Kd.C_drew ?_))); (case aB => exact (by repeat (first | (with_reducible first | exact HB.out | apply below_alloc | apply pw_below_drewN | apply below_drew1) | exact HB.out))); (case aF => exact (fun k_ hk => Kd.fresh' (Kd.R_lt (by (with_reducible repeat (first | apply Kd.R_alloc | apply Kd.R_drewN | apply Kd.R_drew)); exact HO_3.out)) k_ hk)); (case aO => exact (by (with_reducible repeat (first | apply Kd.R_alloc | apply Kd.R_drewN | apply Kd.R_drew)); exact HO116.out)); (case aS => exact (below_size (by repeat (first | (with_reducible first | exact HB.out | apply below_alloc | apply pw_below_drewN | apply below_drew1) | exact HB.out)))); (case aL => have := LMc21.out; omega); intro v122 w26 ho hb hg hat; rw [← Ny121.out] at ho; have n0_ := Aside0.mk (Kd.R_after (ok := (fun _ => True)) (by (with_reducible repeat (first | apply Kd.R_alloc | apply Kd.R_drewN | apply Kd.R_drew)); exact HO_3.out) hg hat); have n1_ := Aside0.mk (hb); have n2_ := Aside0.mk ((show Kd.C (Kd.int .i64) w26 (some ad104) y107.length y107 from by rw [Ny107.out]; exact Kd.C_take (m := (x5_2 : Int).toNat) ((Kd.R_reads' (Kd.R_after (ok := (fun _ => True)) (by (with_reducible repeat (first | apply Kd.R_alloc | apply Kd.R_drewN | apply Kd.R_drew)); exact HO_3.out) hg hat)).2.2) KL22.out)); have n3_ := Aside0.mk ((show Kd.C (Kd.int .i64) w26 A25 y117.length y117 from by rw [Ny117.out, KA25.out]; exact Kd.C_drop (m := (x5_2 : Int).toNat) (c := co5) ((Kd.R_reads' (Kd.R_after (ok := (fun _ => True)) (by (with_reducible repeat (first | apply Kd.R_alloc | apply Kd.R_drewN | apply Kd.R_drew)); exact HO_3.out) hg hat)).2.2) KL25.out ((Kd.R_reads' (Kd.R_after (ok := (fun _ => True)) (by (with_reducible repeat (first | apply Kd.R_alloc | apply Kd.R_drewN | apply Kd.R_drew)); exact HO_3.out) hg hat)).2.1))); have n4_ := Aside0.mk (ho); clear HO_3; clear HB; clear HR110; clear HR120; clear HO116; have HO_3 := n0_; have HB := n1_; have HR110 := n2_; have HR120 := n3_; have HO123 := n4_; clear n0_ n1_ n2_ n3_ n4_; clear ho hb hg hat)))
                                    go_roundg k2
                                    case measure => have := HK1.out; have := HK2.out; omega
                                    case rel => exact ⟨(y121), (wrap64 (x4_1 + 1)), (by first | rfl | (simp; done) | (simp [*]; done)), H', ⟨by have := HK1.out; have := HK2.out; omega⟩, ⟨by (with_reducible repeat (first | apply Kd.R_alloc | apply Kd.R_drewN | apply Kd.R_drew)); exact Kd.R_mono HO123.out (fun _ hk => trivial)⟩, ⟨by repeat (first | (with_reducible first | exact HB.out | apply below_alloc | apply pw_below_drewN | apply below_drew1) | exact HB.out)⟩⟩
                                  · rw [if_neg c21] at H
                                    exact absurd H (by simp)
                                · rw [if_neg c18] at H
                                  exact absurd H (by simp)
                              · rw [if_neg c16] at H
                                exact absurd H (by simp)
                            · rw [if_neg c15] at H
                              exact absurd H (by simp)
                        · rw [if_neg c13] at H
                          exact absurd H (by simp)
                      · rw [if_neg c12] at H
                        exact absurd H (by simp)
                    · rw [if_neg c11] at H
                      exact absurd H (by simp)
                  · rw [if_neg c10] at H
                    exact absurd H (by simp)
                · rw [if_neg c9] at H
                  exact absurd H (by simp)
              · rw [if_neg c8] at H
                exact absurd H (by simp)
            · rw [if_neg c6] at H
              have c6b0 : decide (0 < x5_2) = false := decide_eq_false c6
              clear c6
              by_cases c27 : 0 ≤ x5_2
              · rw [if_pos c27] at H
                have c27b0 := eq_true c27
                have c27b1 : decide (0 ≤ x5_2) = true := decide_eq_true c27
                clear c27
                by_cases c28 : x5_2 ≤ (x3_1.length : Int)
                · rw [if_pos c28] at H
                  have c28b0 := eq_true c28
                  have c28b1 : decide (x5_2 ≤ (x3_1.length : Int)) = true := decide_eq_true c28
                  clear c28
                  obtain ⟨y124, hy124⟩ : ∃ y_ : List Int, y_ = (x3_1.take (x5_2 : Int).toNat) := ⟨_, rfl⟩
                  replace H : ((spec_l00Own.f y124).bind fun t128 => (if t128.length < 17592186044416 then ((some (t128 ++ [x4_1] : List Int)).bind fun y131 => ((some (x3_1.drop (x5_2 : Int).toNat : List Int)).bind fun y134 => (if y131.length + y134.length < 17592186044416 then (spec_l14Order.l0 k2 l0 (y131 ++ y134) (wrap64 (x4_1 + 1))) else (none)))) else (none))) = some r := by first | (rw [hy124]; with_reducible exact H) | (have H2_ := (Option.bind_some _ _).symm.trans H; rw [hy124]; with_reducible exact H2_) | (have H2_ := (Option.bind_some _ _).symm.trans H; with_reducible exact H2_) | with_reducible exact H | (rw [hy124]; exact H) | exact H
                  have Ny124 := Aside0.mk hy124
                  clear hy124
                  replace H := Option.bind_eq_some_iff.mp H
                  obtain ⟨t128, A290, H⟩ := H
                  replace H : (if t128.length < 17592186044416 then ((some (t128 ++ [x4_1] : List Int)).bind fun y131 => ((some (x3_1.drop (x5_2 : Int).toNat : List Int)).bind fun y134 => (if y131.length + y134.length < 17592186044416 then (spec_l14Order.l0 k2 l0 (y131 ++ y134) (wrap64 (x4_1 + 1))) else (none)))) else (none)) = some r := H
                  have A29 := Aside0.mk A290
                  clear A290
                  by_cases c30 : t128.length < 17592186044416
                  · rw [if_pos c30] at H
                    have LMc30 := Aside0.mk c30
                    clear c30
                    obtain ⟨y131, hy131⟩ : ∃ y_ : List Int, y_ = (t128 ++ [x4_1]) := ⟨_, rfl⟩
                    replace H : ((some (x3_1.drop (x5_2 : Int).toNat : List Int)).bind fun y134 => (if y131.length + y134.length < 17592186044416 then (spec_l14Order.l0 k2 l0 (y131 ++ y134) (wrap64 (x4_1 + 1))) else (none))) = some r := by first | (rw [hy131]; with_reducible exact H) | (have H2_ := (Option.bind_some _ _).symm.trans H; rw [hy131]; with_reducible exact H2_) | (have H2_ := (Option.bind_some _ _).symm.trans H; with_reducible exact H2_) | with_reducible exact H | (rw [hy131]; exact H) | exact H
                    have Ny131 := Aside0.mk hy131
                    clear hy131
                    have c31b0 := eq_true (of_decide_eq_true (by first | (with_reducible assumption) | assumption) : 0 ≤ x5_2)
                    have c32b0 := eq_true (of_decide_eq_true (by first | (with_reducible assumption) | assumption) : x5_2 ≤ (x3_1.length : Int))
                    obtain ⟨y134, hy134⟩ : ∃ y_ : List Int, y_ = (x3_1.drop (x5_2 : Int).toNat) := ⟨_, rfl⟩
                    replace H : (if y131.length + y134.length < 17592186044416 then (spec_l14Order.l0 k2 l0 (y131 ++ y134) (wrap64 (x4_1 + 1))) else (none)) = some r := by first | (rw [hy134]; with_reducible exact H) | (have H2_ := (Option.bind_some _ _).symm.trans H; rw [hy134]; with_reducible exact H2_) | (have H2_ := (Option.bind_some _ _).symm.trans H; with_reducible exact H2_) | with_reducible exact H | (rw [hy134]; exact H) | exact H
                    have Ny134 := Aside0.mk hy134
                    clear hy134
                    by_cases c33 : y131.length + y134.length < 17592186044416
                    · rw [if_pos c33] at H
                      have LMc33 := Aside0.mk c33
                      clear c33
                      obtain ⟨y138, hy138⟩ : ∃ y_ : List Int, y_ = (y131 ++ y134) := ⟨_, rfl⟩
                      replace H : (spec_l14Order.l0 k2 l0 y138 (wrap64 (x4_1 + 1))) = some r := by first | (rw [hy138]; with_reducible exact H) | (have H2_ := (Option.bind_some _ _).symm.trans H; rw [hy138]; with_reducible exact H2_) | (have H2_ := (Option.bind_some _ _).symm.trans H; with_reducible exact H2_) | with_reducible exact H | (rw [hy138]; exact H) | exact H
                      have Ny138 := Aside0.mk hy138
                      clear hy138
                      have H' := Aside0.mk H
                      clear H
                      have q34 : (x5_2 : Int) ≤ ((x3_1.length : Int) : Int) := of_decide_eq_true (by first | (with_reducible assumption) | assumption)
                      obtain ⟨i034, hi034, _, hsz34, _⟩ := info_parts info2
                      have hroom34 : x3_1.length ≤ co5 := (Kd.R_reads' HO_3.out).2.1
                      have hC34 : Kd.C (Kd.int .i64) _ Ao5 x3_1.length x3_1 := (Kd.R_reads' HO_3.out).2.2
                      have hcut34 := cut_to (P := Try.prog) 22 2 .i64 Try.underlying22 hi034 Ao5 x3_1.length co5 x5_2 (of_decide_eq_true (by first | (with_reducible assumption) | assumption)) q34 hroom34
                      have hr34 := Kd.C_take (m := (x5_2 : Int).toNat) hC34 (by omega)
                      have hy34 : y124.length = (x5_2 : Int).toNat := (by rw [Ny124.out, List.length_take]; omega)
                      rw [← Ny124.out] at hr34
                      rw [← hy34] at hcut34
                      have HR127 := Aside0.mk hr34
                      have HC127 := Aside0.mk (show y124.length ≤ co5 from by omega)
                      clear hr34 hC34 hroom34 hi034 hsz34
                      have KY34 := Aside0.mk hy34
                      clear hy34
                      have KL34 := Aside0.mk (show (x5_2 : Int).toNat ≤ x3_1.length from by omega)
                      replace q34 := eq_true q34
                      go_wp2_with (first | (go_at_call 96; (with_reducible refine (spec_l00Own.calls _ _ y124 t128 _ ?side1 ?side2 A29.out).mono ?_); (case side1 => repeat (first | exact (by repeat (first | (with_reducible exact HR127.out) | (with_reducible refine Kd.C_alloc ?_ _) | (with_reducible refine Kd.C_drewN ?_ _) | (with_reducible refine Kd.C_drew ?_) | exact HR127.out)) | (with_reducible refine Kd.C_alloc ?_ _) | (with_reducible refine Kd.C_drewN ?_ _) | (with_reducible refine Kd.C_drew ?_))); (case side2 => exact HC127.out); rintro e w35 ⟨v129, rfl, ho0, hb⟩; have n0_ := Aside0.mk (Kd.R_elder' (by (with_reducible repeat (first | apply Kd.R_alloc | apply Kd.R_drewN | apply Kd.R_drew)); exact HO_3.out) (Kd.R_base ho0) hb); have n1_ := Aside0.mk (Kd.R_lower (Kd.R_new' ho0 (Kd.R_lt (by (with_reducible repeat (first | apply Kd.R_alloc | apply Kd.R_drewN | apply Kd.R_drew)); exact HO_3.out))) (below_size (by repeat (first | (with_reducible first | exact HB.out | apply below_alloc | apply pw_below_drewN | apply below_drew1) | exact HB.out)))); have n2_ := Aside0.mk (Kd.C_below (by repeat (first | (with_reducible exact HR127.out) | (with_reducible refine Kd.C_alloc ?_ _) | (with_reducible refine Kd.C_drewN ?_ _) | (with_reducible refine Kd.C_drew ?_) | exact HR127.out)) hb); have n3_ := Aside0.mk (below_step (by repeat (first | (with_reducible first | exact HB.out | apply below_alloc | apply pw_below_drewN | apply below_drew1) | exact HB.out)) hb); clear HO_3; clear HR127; clear HB; have HO_3 := n0_; have HO130 := n1_; have HR127 := n2_; have HB := n3_; clear n0_ n1_ n2_ n3_; (try clear hb); (try clear hb2); (try clear hk); (try clear hi); (try clear ho0)) | ((with_reducible refine gate_builtin (b := .append) (xs := #[.tmp 39, .tmp 41]) rfl ?_); at_builtin; refine Kd.R_append (Kd.int .i64) (w0 := w) w.heap.size rfl (.tmp 39) (.tmp 41) 22 2 (.int .i64 0) 8 rfl Try.underlying22 info2 rfl (by decide) (by omega) v129 t128 x4_1 [.int .i64 x4_1] (fun k_ => some k_ ≠ (.slice Ao5 x3_1.length co5 : Value).ownBlock) (fun _ => False) rfl rfl ?aP (fun _ hk => hk.elim) ?aF ?aO ?aB ?aS ?aL ?_; (case aP => exact rfl); (case aB => exact (by repeat (first | (with_reducible first | exact HB.out | apply below_alloc | apply pw_below_drewN | apply below_drew1) | exact HB.out))); (case aF => exact (fun k_ hk => Kd.fresh' (Kd.R_lt (by (with_reducible repeat (first | apply Kd.R_alloc | apply Kd.R_drewN | apply Kd.R_drew)); exact HO_3.out)) k_ hk)); (case aO => exact (by (with_reducible repeat (first | apply Kd.R_alloc | apply Kd.R_drewN | apply Kd.R_drew)); exact Kd.R_mono HO130.out (fun _ hk => hk.2))); (case aS => exact (below_size (by repeat (first | (with_reducible first | exact HB.out | apply below_alloc | apply pw_below_drewN | apply below_drew1) | exact HB.out)))); (case aL => have := LMc30.out; omega); intro v132 w36 ho hb hg hat; rw [← Ny131.out] at ho; have n0_ := Aside0.mk (Kd.R_after (ok := (fun _ => True)) (by (with_reducible repeat (first | apply Kd.R_alloc | apply Kd.R_drewN | apply Kd.R_drew)); exact HO_3.out) hg hat); have n1_ := Aside0.mk (hb); have n2_ := Aside0.mk ((show Kd.C (Kd.int .i64) w36 Ao5 y124.length y124 from by rw [Ny124.out]; exact Kd.C_take (m := (x5_2 : Int).toNat) ((Kd.R_reads' (Kd.R_after (ok := (fun _ => True)) (by (with_reducible repeat (first | apply Kd.R_alloc | apply Kd.R_drewN | apply Kd.R_drew)); exact HO_3.out) hg hat)).2.2) KL34.out)); have n3_ := Aside0.mk (ho); clear HO_3; clear HB; clear HR127; clear HO130; have HO_3 := n0_; have HB := n1_; have HR127 := n2_; have HO133 := n3_; clear n0_ n1_ n2_ n3_; clear ho hb hg hat; have q37 : (x5_2 : Int) ≤ ((x3_1.length : Int) : Int) := of_decide_eq_true (by first | (with_reducible assumption) | assumption); obtain ⟨i037, hi037, _, hsz37, _⟩ := info_parts info2; have hroom37 : x3_1.length ≤ co5 := (Kd.R_reads' HO_3.out).2.1; have hC37 : Kd.C (Kd.int .i64) _ Ao5 x3_1.length x3_1 := (Kd.R_reads' HO_3.out).2.2; have q037 : (0 : Int) ≤ (x5_2 : Int) := of_decide_eq_true (by first | (with_reducible assumption) | assumption); have hcut37 := cut_from (P := Try.prog) 22 2 .i64 Try.underlying22 hi037 1 hsz37 Ao5 x3_1.length co5 x5_2 q037 q37; have hr37 := Kd.C_drop (m := (x5_2 : Int).toNat) (c := co5) hC37 (by omega) hroom37; obtain ⟨A37, hA37⟩ : ∃ A1, A1 = (if co5 = (x5_2 : Int).toNat then Ao5 else (Ao5 : Option Addr).map (·.add ((x5_2 : Int).toNat * 1))) := ⟨_, rfl⟩; obtain ⟨c37, hc37⟩ : ∃ c1, c1 = co5 - (x5_2 : Int).toNat := ⟨_, rfl⟩; have hy37 : y134.length = x3_1.length - (x5_2 : Int).toNat := (by rw [Ny134.out, List.length_drop] <;> omega); rw [show (x3_1).drop (x5_2 : Int).toNat = y134 from Ny134.out.symm] at hr37; replace hr37 : Kd.C (Kd.int .i64) _ A37 y134.length y134 := (by rw [hA37]; exact hr37); rw [← hy37, ← hA37, ← hc37] at hcut37; have HR137 := Aside0.mk hr37; have HC137 := Aside0.mk (show y134.length ≤ c37 from by rw [hy37, hc37]; exact Nat.sub_le_sub_right hroom37 _); clear hr37 hC37 hroom37 hi037 hsz37 hc37; have KY37 := Aside0.mk hy37; have KA37 := Aside0.mk hA37; clear hy37 hA37; have KL37 := Aside0.mk (show (x5_2 : Int).toNat ≤ x3_1.length from by omega); replace q37 := eq_true q37) | ((with_reducible refine gate_builtin (b := .append) (xs := #[.tmp 43, .tmp 46]) rfl ?_); at_builtin; refine Kd.R_append_rows (Kd.int .i64) (w0 := w) w.heap.size rfl (.tmp 43) (.tmp 46) 22 2 (.int .i64 0) 8 rfl Try.underlying22 info2 rfl (by decide) (by omega) v132 y131 y134 _ _ _ (fun k_ => some k_ ≠ (.slice Ao5 x3_1.length co5 : Value).ownBlock) (fun _ => False) rfl rfl ?aO ?aR (fun _ _ h => h) (fun _ h => h.elim) ?aF ?aB ?aS ?aL ?_; (case aR => repeat (first | exact (by repeat (first | (with_reducible exact HR137.out) | (with_reducible refine Kd.C_alloc ?_ _) | (with_reducible refine Kd.C_drewN ?_ _) | (with_reducible refine Kd.C_drew ?_) | exact HR137.out)) | (with_reducible refine Kd.C_alloc ?_ _) | (with_reducible refine Kd.C_drewN ?_ _) | (with_reducible refine Kd.C_drew ?_))); (case aB => exact (by repeat (first | (with_reducible first | exact HB.out | apply below_alloc | apply pw_below_drewN | apply below_drew1) | exact HB.out))); (case aF => exact (fun k_ hk => Kd.fresh' (Kd.R_lt (by (with_reducible repeat (first | apply Kd.R_alloc | apply Kd.R_drewN | apply Kd.R_drew)); exact HO_3.out)) k_ hk)); (case aO => exact (by (with_reducible repeat (first | apply Kd.R_alloc | apply Kd.R_drewN | apply Kd.R_drew)); exact HO133.out)); (case aS => exact (below_size (by repeat (first | (with_reducible first | exact HB.out | apply below_alloc | apply pw_below_drewN | apply below_drew1) | exact HB.out)))); (case aL => have := LMc33.out; omega); intro v139 w38 ho hb hg hat; rw [← Ny138.out] at ho; have n0_ := Aside0.mk (Kd.R_after (ok := (fun _ => True)) (by (with_reducible repeat (first | apply Kd.R_alloc | apply Kd.R_drewN | apply Kd.R_drew)); exact HO_3.out) hg hat); have n1_ := Aside0.mk (hb); have n2_ := Aside0.mk ((show Kd.C (Kd.int .i64) w38 Ao5 y124.length y124 from by rw [Ny124.out]; exact Kd.C_take (m := (x5_2 : Int).toNat) ((Kd.R_reads' (Kd.R_after (ok := (fun _ => True)) (by (with_reducible repeat (first | apply Kd.R_alloc | apply Kd.R_drewN | apply Kd.R_drew)); exact HO_3.out) hg hat)).2.2) KL34.out)); have n3_ := Aside0.mk ((show Kd.C (Kd.int .i64) w38 A37 y134.length y134 from by rw [Ny134.out, KA37.out]; exact Kd.C_drop (m := (x5_2 : Int).toNat) (c := co5) ((Kd.R_reads' (Kd.R_after (ok := (fun _ => True)) (by (with_reducible repeat (first | apply Kd.R_alloc | apply Kd.R_drewN | apply Kd.R_drew)); exact HO_3.out) hg hat)).2.2) KL37.out ((Kd.R_reads' (Kd.R_after (ok := (fun _ => True)) (by (with_reducible repeat (first | apply Kd.R_alloc | apply Kd.R_drewN | apply Kd.R_drew)); exact HO_3.out) hg hat)).2.1))); have n4_ := Aside0.mk (ho); clear HO_3; clear HB; clear HR127; clear HR137; clear HO133; have HO_3 := n0_; have HB := n1_; have HR127 := n2_; have HR137 := n3_; have HO140 := n4_; clear n0_ n1_ n2_ n3_ n4_; clear ho hb hg hat))
                      repeat (go_quiet (first | (go_at_call 96; (with_reducible refine (spec_l00Own.calls _ _ y124 t128 _ ?side1 ?side2 A29.out).mono ?_); (case side1 => repeat (first | exact (by repeat (first | (with_reducible exact HR127.out) | (with_reducible refine Kd.C_alloc ?_ _) | (with_reducible refine Kd.C_drewN ?_ _) | (with_reducible refine Kd.C_drew ?_) | exact HR127.out)) | (with_reducible refine Kd.C_alloc ?_ _) | (with_reducible refine Kd.C_drewN ?_ _) | (with_reducible refine Kd.C_drew ?_))); (case side2 => exact HC127.out); rintro e w35 ⟨v129, rfl, ho0, hb⟩; have n0_ := Aside0.mk (Kd.R_elder' (by (with_reducible repeat (first | apply Kd.R_alloc | apply Kd.R_drewN | apply Kd.R_drew)); exact HO_3.out) (Kd.R_base ho0) hb); have n1_ := Aside0.mk (Kd.R_lower (Kd.R_new' ho0 (Kd.R_lt (by (with_reducible repeat (first | apply Kd.R_alloc | apply Kd.R_drewN | apply Kd.R_drew)); exact HO_3.out))) (below_size (by repeat (first | (with_reducible first | exact HB.out | apply below_alloc | apply pw_below_drewN | apply below_drew1) | exact HB.out)))); have n2_ := Aside0.mk (Kd.C_below (by repeat (first | (with_reducible exact HR127.out) | (with_reducible refine Kd.C_alloc ?_ _) | (with_reducible refine Kd.C_drewN ?_ _) | (with_reducible refine Kd.C_drew ?_) | exact HR127.out)) hb); have n3_ := Aside0.mk (below_step (by repeat (first | (with_reducible first | exact HB.out | apply below_alloc | apply pw_below_drewN | apply below_drew1) | exact HB.out)) hb); clear HO_3; clear HR127; clear HB; have HO_3 := n0_; have HO130 := n1_; have HR127 := n2_; have HB := n3_; clear n0_ n1_ n2_ n3_; (try clear hb); (try clear hb2); (try clear hk); (try clear hi); (try clear ho0)) | ((with_reducible refine gate_builtin (b := .append) (xs := #[.tmp 39, .tmp 41]) rfl ?_); at_builtin; refine Kd.R_append (Kd.int .i64) (w0 := w) w.heap.size rfl (.tmp 39) (.tmp 41) 22 2 (.int .i64 0) 8 rfl Try.underlying22 info2 rfl (by decide) (by omega) v129 t128 x4_1 [.int .i64 x4_1] (fun k_ => some k_ ≠ (.slice Ao5 x3_1.length co5 : Value).ownBlock) (fun _ => False) rfl rfl ?aP (fun _ hk => hk.elim) ?aF ?aO ?aB ?aS ?aL ?_; (case aP => exact rfl); (case aB => exact (by repeat (first | (with_reducible first | exact HB.out | apply below_alloc | apply pw_below_drewN | apply below_drew1) | exact HB.out))); (case aF => exact (fun k_ hk => Kd.fresh' (Kd.R_lt (by (with_reducible repeat (first | apply Kd.R_alloc | apply Kd.R_drewN | apply Kd.R_drew)); exact HO_3.out)) k_ hk)); (case aO => exact (by (with_reducible repeat (first | apply Kd.R_alloc | apply Kd.R_drewN | apply Kd.R_drew)); exact Kd.R_mono HO130.out (fun _ hk => hk.2))); (case aS => exact (below_size (by repeat (first | (with_reducible first | exact HB.out | apply below_alloc | apply pw_below_drewN | apply below_drew1) | exact HB.out)))); (case aL => have := LMc30.out; omega); intro v132 w36 ho hb hg hat; rw [← Ny131.out] at ho; have n0_ := Aside0.mk (Kd.R_after (ok := (fun _ => True)) (by (with_reducible repeat (first | apply Kd.R_alloc | apply Kd.R_drewN | apply Kd.R_drew)); exact HO_3.out) hg hat); have n1_ := Aside0.mk (hb); have n2_ := Aside0.mk ((show Kd.C (Kd.int .i64) w36 Ao5 y124.length y124 from by rw [Ny124.out]; exact Kd.C_take (m := (x5_2 : Int).toNat) ((Kd.R_reads' (Kd.R_after (ok := (fun _ => True)) (by (with_reducible repeat (first | apply Kd.R_alloc | apply Kd.R_drewN | apply Kd.R_drew)); exact HO_3.out) hg hat)).2.2) KL34.out)); have n3_ := Aside0.mk (ho); clear HO_3; clear HB; clear HR127; clear HO130; have HO_3 := n0_; have HB := n1_; have HR127 := n2_; have HO133 := n3_; clear n0_ n1_ n2_ n3_; clear ho hb hg hat; have q37 : (x5_2 : Int) ≤ ((x3_1.length : Int) : Int) := of_decide_eq_true (by first | (with_reducible assumption) | assumption); obtain ⟨i037, hi037, _, hsz37, _⟩ := info_parts info2; have hroom37 : x3_1.length ≤ co5 := (Kd.R_reads' HO_3.out).2.1; have hC37 : Kd.C (Kd.int .i64) _ Ao5 x3_1.length x3_1 := (Kd.R_reads' HO_3.out).2.2; have q037 : (0 : Int) ≤ (x5_2 : Int) := of_decide_eq_true (by first | (with_reducible assumption) | assumption); have hcut37 := cut_from (P := Try.prog) 22 2 .i64 Try.underlying22 hi037 1 hsz37 Ao5 x3_1.length co5 x5_2 q037 q37; have hr37 := Kd.C_drop (m := (x5_2 : Int).toNat) (c := co5) hC37 (by omega) hroom37; obtain ⟨A37, hA37⟩ : ∃ A1, A1 = (if co5 = (x5_2 : Int).toNat then Ao5 else (Ao5 : Option Addr).map (·.add ((x5_2 : Int).toNat * 1))) := ⟨_, rfl⟩; obtain ⟨c37, hc37⟩ : ∃ c1, c1 = co5 - (x5_2 : Int).toNat := ⟨_, rfl⟩; have hy37 : y134.length = x3_1.length - (x5_2 : Int).toNat := (by rw [Ny134.out, List.length_drop] <;> omega); rw [show (x3_1).drop (x5_2 : Int).toNat = y134 from Ny134.out.symm] at hr37; replace hr37 : Kd.C (Kd.int .i64) _ A37 y134.length y134 := (by rw [hA37]; exact hr37); rw [← hy37, ← hA37, ← hc37] at hcut37; have HR137 := Aside0.mk hr37; have HC137 := Aside0.mk (show y134.length ≤ c37 from by rw [hy37, hc37]; exact Nat.sub_le_sub_right hroom37 _); clear hr37 hC37 hroom37 hi037 hsz37 hc37; have KY37 := Aside0.mk hy37; have KA37 := Aside0.mk hA37; clear hy37 hA37; have KL37 := Aside0.mk (show (x5_2 : Int).toNat ≤ x3_1.length from by omega); replace q37 := eq_true q37) | ((with_reducible refine gate_builtin (b := .append) (xs := #[.tmp 43, .tmp 46]) rfl ?_); at_builtin; refine Kd.R_append_rows (Kd.int .i64) (w0 := w) w.heap.size rfl (.tmp 43) (.tmp 46) 22 2 (.int .i64 0) 8 rfl Try.underlying22 info2 rfl (by decide) (by omega) v132 y131 y134 _ _ _ (fun k_ => some k_ ≠ (.slice Ao5 x3_1.length co5 : Value).ownBlock) (fun _ => False) rfl rfl ?aO ?aR (fun _ _ h => h) (fun _ h => h.elim) ?aF ?aB ?aS ?aL ?_; (case aR => repeat (first | exact (by repeat (first | (with_reducible exact HR137.out) | (with_reducible refine Kd.C_alloc ?_ _) | (with_reducible refine Kd.C_drewN ?_ _) | (with_reducible refine Kd.C_drew ?_) | exact HR137.out)) | (with_reducible refine Kd.C_alloc ?_ _) | (with_reducible refine Kd.C_drewN ?_ _) | (with_reducible refine Kd.C_drew ?_))); (case aB => exact (by repeat (first | (with_reducible first | exact HB.out | apply below_alloc | apply pw_below_drewN | apply below_drew1) | exact HB.out))); (case aF => exact (fun k_ hk => Kd.fresh' (Kd.R_lt (by (with_reducible repeat (first | apply Kd.R_alloc | apply Kd.R_drewN | apply Kd.R_drew)); exact HO_3.out)) k_ hk)); (case aO => exact (by (with_reducible repeat (first | apply Kd.R_alloc | apply Kd.R_drewN | apply Kd.R_drew)); exact HO133.out)); (case aS => exact (below_size (by repeat (first | (with_reducible first | exact HB.out | apply below_alloc | apply pw_below_drewN | apply below_drew1) | exact HB.out)))); (case aL => have := LMc33.out; omega); intro v139 w38 ho hb hg hat; rw [← Ny138.out] at ho; have n0_ := Aside0.mk (Kd.R_after (ok := (fun _ => True)) (by (with_reducible repeat (first | apply Kd.R_alloc | apply Kd.R_drewN | apply Kd.R_drew)); exact HO_3.out) hg hat); have n1_ := Aside0.mk (hb); have n2_ := Aside0.mk ((show Kd.C (Kd.int .i64) w38 Ao5 y124.length y124 from by rw [Ny124.out]; exact Kd.C_take (m := (x5_2 : Int).toNat) ((Kd.R_reads' (Kd.R_after (ok := (fun _ => True)) (by (with_reducible repeat (first | apply Kd.R_alloc | apply Kd.R_drewN | apply Kd.R_drew)); exact HO_3.out) hg hat)).2.2) KL34.out)); have n3_ := Aside0.mk ((show Kd.C (Kd.int .i64) w38 A37 y134.length y134 from by rw [Ny134.out, KA37.out]; exact Kd.C_drop (m := (x5_2 : Int).toNat) (c := co5) ((Kd.R_reads' (Kd.R_after (ok := (fun _ => True)) (by (with_reducible repeat (first | apply Kd.R_alloc | apply Kd.R_drewN | apply Kd.R_drew)); exact HO_3.out) hg hat)).2.2) KL37.out ((Kd.R_reads' (Kd.R_after (ok := (fun _ => True)) (by (with_reducible repeat (first | apply Kd.R_alloc | apply Kd.R_drewN | apply Kd.R_drew)); exact HO_3.out) hg hat)).2.1))); have n4_ := Aside0.mk (ho); clear HO_3; clear HB; clear HR127; clear HR137; clear HO133; have HO_3 := n0_; have HB := n1_; have HR127 := n2_; have HR137 := n3_; have HO140 := n4_; clear n0_ n1_ n2_ n3_ n4_; clear ho hb hg hat)); try go_wp2_with (first | (go_at_call 96; (with_reducible refine (spec_l00Own.calls _ _ y124 t128 _ ?side1 ?side2 A29.out).mono ?_); (case side1 => repeat (first | exact (by repeat (first | (with_reducible exact HR127.out) | (with_reducible refine Kd.C_alloc ?_ _) | (with_reducible refine Kd.C_drewN ?_ _) | (with_reducible refine Kd.C_drew ?_) | exact HR127.out)) | (with_reducible refine Kd.C_alloc ?_ _) | (with_reducible refine Kd.C_drewN ?_ _) | (with_reducible refine Kd.C_drew ?_))); (case side2 => exact HC127.out); rintro e w35 ⟨v129, rfl, ho0, hb⟩; have n0_ := Aside0.mk (Kd.R_elder' (by (with_reducible repeat (first | apply Kd.R_alloc | apply Kd.R_drewN | apply Kd.R_drew)); exact HO_3.out) (Kd.R_base ho0) hb); have n1_ := Aside0.mk (Kd.R_lower (Kd.R_new' ho0 (Kd.R_lt (by (with_reducible repeat (first | apply Kd.R_alloc | apply Kd.R_drewN | apply Kd.R_drew)); exact HO_3.out))) (below_size (by repeat (first | (with_reducible first | exact HB.out | apply below_alloc | apply pw_below_drewN | apply below_drew1) | exact HB.out)))); have n2_ := Aside0.mk (Kd.C_below (by repeat (first | (with_reducible exact HR127.out) | (with_reducible refine Kd.C_alloc ?_ _) | (with_reducible refine Kd.C_drewN ?_ _) | (with_reducible refine Kd.C_drew ?_) | exact HR127.out)) hb); have n3_ := Aside0.mk (below_step (by repeat (first | (with_reducible first | exact HB.out | apply below_alloc | apply pw_below_drewN | apply below_drew1) | exact HB.out)) hb); clear HO_3; clear HR127; clear HB; have HO_3 := n0_; have HO130 := n1_; have HR127 := n2_; have HB := n3_; clear n0_ n1_ n2_ n3_; (try clear hb); (try clear hb2); (try clear hk); (try clear hi); (try clear ho0)) | ((with_reducible refine gate_builtin (b := .append) (xs := #[.tmp 39, .tmp 41]) rfl ?_); at_builtin; refine Kd.R_append (Kd.int .i64) (w0 := w) w.heap.size rfl (.tmp 39) (.tmp 41) 22 2 (.int .i64 0) 8 rfl Try.underlying22 info2 rfl (by decide) (by omega) v129 t128 x4_1 [.int .i64 x4_1] (fun k_ => some k_ ≠ (.slice Ao5 x3_1.length co5 : Value).ownBlock) (fun _ => False) rfl rfl ?aP (fun _ hk => hk.elim) ?aF ?aO ?aB ?aS ?aL ?_; (case aP => exact rfl); (case aB => exact (by repeat (first | (with_reducible first | exact HB.out | apply below_alloc | apply pw_below_drewN | apply below_drew1) | exact HB.out))); (case aF => exact (fun k_ hk => Kd.fresh' (Kd.R_lt (by (with_reducible repeat (first | apply Kd.R_alloc | apply Kd.R_drewN | apply Kd.R_drew)); exact HO_3.out)) k_ hk)); (case aO => exact (by (with_reducible repeat (first | apply Kd.R_alloc | apply Kd.R_drewN | apply Kd.R_drew)); exact Kd.R_mono HO130.out (fun _ hk => hk.2))); (case aS => exact (below_size (by repeat (first | (with_reducible first | exact HB.out | apply below_alloc | apply pw_below_drewN | apply below_drew1) | exact HB.out)))); (case aL => have := LMc30.out; omega); intro v132 w36 ho hb hg hat; rw [← Ny131.out] at ho; have n0_ := Aside0.mk (Kd.R_after (ok := (fun _ => True)) (by (with_reducible repeat (first | apply Kd.R_alloc | apply Kd.R_drewN | apply Kd.R_drew)); exact HO_3.out) hg hat); have n1_ := Aside0.mk (hb); have n2_ := Aside0.mk ((show Kd.C (Kd.int .i64) w36 Ao5 y124.length y124 from by rw [Ny124.out]; exact Kd.C_take (m := (x5_2 : Int).toNat) ((Kd.R_reads' (Kd.R_after (ok := (fun _ => True)) (by (with_reducible repeat (first | apply Kd.R_alloc | apply Kd.R_drewN | apply Kd.R_drew)); exact HO_3.out) hg hat)).2.2) KL34.out)); have n3_ := Aside0.mk (ho); clear HO_3; clear HB; clear HR127; clear HO130; have HO_3 := n0_; have HB := n1_; have HR127 := n2_; have HO133 := n3_; clear n0_ n1_ n2_ n3_; clear ho hb hg hat; have q37 : (x5_2 : Int) ≤ ((x3_1.length : Int) : Int) := of_decide_eq_true (by first | (with_reducible assumption) | assumption); obtain ⟨i037, hi037, _, hsz37, _⟩ := info_parts info2; have hroom37 : x3_1.length ≤ co5 := (Kd.R_reads' HO_3.out).2.1; have hC37 : Kd.C (Kd.int .i64) _ Ao5 x3_1.length x3_1 := (Kd.R_reads' HO_3.out).2.2; have q037 : (0 : Int) ≤ (x5_2 : Int) := of_decide_eq_true (by first | (with_reducible assumption) | assumption); have hcut37 := cut_from (P := Try.prog) 22 2 .i64 Try.underlying22 hi037 1 hsz37 Ao5 x3_1.length co5 x5_2 q037 q37; have hr37 := Kd.C_drop (m := (x5_2 : Int).toNat) (c := co5) hC37 (by omega) hroom37; obtain ⟨A37, hA37⟩ : ∃ A1, A1 = (if co5 = (x5_2 : Int).toNat then Ao5 else (Ao5 : Option Addr).map (·.add ((x5_2 : Int).toNat * 1))) := ⟨_, rfl⟩; obtain ⟨c37, hc37⟩ : ∃ c1, c1 = co5 - (x5_2 : Int).toNat := ⟨_, rfl⟩; have hy37 : y134.length = x3_1.length - (x5_2 : Int).toNat := (by rw [Ny134.out, List.length_drop] <;> omega); rw [show (x3_1).drop (x5_2 : Int).toNat = y134 from Ny134.out.symm] at hr37; replace hr37 : Kd.C (Kd.int .i64) _ A37 y134.length y134 := (by rw [hA37]; exact hr37); rw [← hy37, ← hA37, ← hc37] at hcut37; have HR137 := Aside0.mk hr37; have HC137 := Aside0.mk (show y134.length ≤ c37 from by rw [hy37, hc37]; exact Nat.sub_le_sub_right hroom37 _); clear hr37 hC37 hroom37 hi037 hsz37 hc37; have KY37 := Aside0.mk hy37; have KA37 := Aside0.mk hA37; clear hy37 hA37; have KL37 := Aside0.mk (show (x5_2 : Int).toNat ≤ x3_1.length from by omega); replace q37 := eq_true q37) | ((with_reducible refine gate_builtin (b := .append) (xs := #[.tmp 43, .tmp 46]) rfl ?_); at_builtin; refine Kd.R_append_rows (Kd.int .i64) (w0 := w) w.heap.size rfl (.tmp 43) (.tmp 46) 22 2 (.int .i64 0) 8 rfl Try.underlying22 info2 rfl (by decide) (by omega) v132 y131 y134 _ _ _ (fun k_ => some k_ ≠ (.slice Ao5 x3_1.length co5 : Value).ownBlock) (fun _ => False) rfl rfl ?aO ?aR (fun _ _ h => h) (fun _ h => h.elim) ?aF ?aB ?aS ?aL ?_; (case aR => repeat (first | exact (by repeat (first | (with_reducible exact HR137.out) | (with_reducible refine Kd.C_alloc ?_ _) | (with_reducible refine Kd.C_drewN ?_ _) | (with_reducible refine Kd.C_drew ?_) | exact HR137.out)) | (with_reducible refine Kd.C_alloc ?_ _) | (with_reducible refine Kd.C_drewN ?_ _) | (with_reducible refine Kd.C_drew ?_))); (case aB => exact (by repeat (first | (with_reducible first | exact HB.out | apply below_alloc | apply pw_below_drewN | apply below_drew1) | exact HB.out))); (case aF => exact (fun k_ hk => Kd.fresh' (Kd.R_lt (by (with_reducible repeat (first | apply Kd.R_alloc | apply Kd.R_drewN | apply Kd.R_drew)); exact HO_3.out)) k_ hk)); (case aO => exact (by (with_reducible repeat (first | apply Kd.R_alloc | apply Kd.R_drewN | apply Kd.R_drew)); exact HO133.out)); (case aS => exact (below_size (by repeat (first | (with_reducible first | exact HB.out | apply below_alloc | apply pw_below_drewN | apply below_drew1) | exact HB.out)))); (case aL => have := LMc33.out; omega); intro v139 w38 ho hb hg hat; rw [← Ny138.out] at ho; have n0_ := Aside0.mk (Kd.R_after (ok := (fun _ => True)) (by (with_reducible repeat (first | apply Kd.R_alloc | apply Kd.R_drewN | apply Kd.R_drew)); exact HO_3.out) hg hat); have n1_ := Aside0.mk (hb); have n2_ := Aside0.mk ((show Kd.C (Kd.int .i64) w38 Ao5 y124.length y124 from by rw [Ny124.out]; exact Kd.C_take (m := (x5_2 : Int).toNat) ((Kd.R_reads' (Kd.R_after (ok := (fun _ => True)) (by (with_reducible repeat (first | apply Kd.R_alloc | apply Kd.R_drewN | apply Kd.R_drew)); exact HO_3.out) hg hat)).2.2) KL34.out)); have n3_ := Aside0.mk ((show Kd.C (Kd.int .i64) w38 A37 y134.length y134 from by rw [Ny134.out, KA37.out]; exact Kd.C_drop (m := (x5_2 : Int).toNat) (c := co5) ((Kd.R_reads' (Kd.R_after (ok := (fun _ => True)) (by (with_reducible repeat (first | apply Kd.R_alloc | apply Kd.R_drewN | apply Kd.R_drew)); exact HO_3.out) hg hat)).2.2) KL37.out ((Kd.R_reads' (Kd.R_after (ok := (fun _ => True)) (by (with_reducible repeat (first | apply Kd.R_alloc | apply Kd.R_drewN | apply Kd.R_drew)); exact HO_3.out) hg hat)).2.1))); have n4_ := Aside0.mk (ho); clear HO_3; clear HB; clear HR127; clear HR137; clear HO133; have HO_3 := n0_; have HB := n1_; have HR127 := n2_; have HR137 := n3_; have HO140 := n4_; clear n0_ n1_ n2_ n3_ n4_; clear ho hb hg hat)))
                      go_roundg k2
                      case measure => have := HK1.out; have := HK2.out; omega
                      case rel => exact ⟨(y138), (wrap64 (x4_1 + 1)), (by first | rfl | (simp; done) | (simp [*]; done)), H', ⟨by have := HK1.out; have := HK2.out; omega⟩, ⟨by (with_reducible repeat (first | apply Kd.R_alloc | apply Kd.R_drewN | apply Kd.R_drew)); exact Kd.R_mono HO140.out (fun _ hk => trivial)⟩, ⟨by repeat (first | (with_reducible first | exact HB.out | apply below_alloc | apply pw_below_drewN | apply below_drew1) | exact HB.out)⟩⟩
                    · rw [if_neg c33] at H
                      exact absurd H (by simp)
                  · rw [if_neg c30] at H
                    exact absurd H (by simp)
                · rw [if_neg c28] at H
                  exact absurd H (by simp)
              · rw [if_neg c27] at H
                exact absurd H (by simp)
      · rw [if_neg c4] at H
        have c4b0 : decide (x4_1 < (l0.length : Int)) = false := decide_eq_false c4
        clear c4
        obtain rfl := Option.some.inj H
        go_wp2
        repeat (go_quiet (fail); try go_wp2)
        go_ret
        exact ⟨_, by first | rfl | (simp [errW_none, errW_some] <;> rfl) | (simp [*, errW_none, errW_some] <;> rfl), by (with_reducible repeat (first | apply Kd.R_alloc | apply Kd.R_drewN | apply Kd.R_drew)); exact HO_3.out, by repeat (first | (with_reducible first | exact HB.out | apply below_alloc | apply pw_below_drewN | apply below_drew1) | exact HB.out)⟩
end Go.Proofs.Yteafahnopgmgoaa.Q
namespace Go.Proofs.Yteafahnopgmgoaa.Q
open Go.RowKit Go.Proofs.YteafahnopgmgoaaW.PrintWords Go.Proofs.YteafahnopgmgoaaW.PrintLast Go.Proofs.YteafahnopgmgoaaW.PrintMore
attribute [local go_sem] max2_int min2_int max_two min_two max_three min_three max_four min_four
set_option linter.unusedVariables false
set_option linter.unusedSimpArgs false
mutual
def spec_RankedFeatures.j0 : Nat → List (S28) → Bool → ByteArray → List Int → Option (List Int × Int)
  | 0, _, _, _, _ => none
  | k + 1, x0, x14, x102000, x102001 => if x14 = true then (some (([] : List Int), 1)) else (spec_RankedFeatures.l0 k x0 (([] : List Int)) 0 x102000 x102001)
def spec_RankedFeatures.l0 : Nat → List (S28) → List Int → Int → ByteArray → List Int → Option (List Int × Int)
  | 0, _, _, _, _, _ => none
  | k + 1, x0, x6, x7, x102000, x102001 => if x7 < (x0.length : Int) then (if 0 ≤ x7 then ((spec_l26Away.f k [rd_T28 x0 x7] [(⟨x102000, x102001⟩ : S28)]).bind fun t108 => (if x6.length < 17592186044416 then (spec_RankedFeatures.l0 k x0 (x6 ++ [wrap64 (-t108)]) (wrap64 (x7 + 1)) x102000 x102001) else (none))) else (none)) else ((spec_l14Order.f k x6).bind fun t112 => (some (t112, 0)))
end
def spec_RankedFeatures.f (k : Nat) (l0 : List (S28)) (a1_0 : ByteArray) (l1_1 : List Int) : Option (List Int × Int) := (spec_l26Ok.f k l0).bind fun t102 => (if t102 = true then ((spec_l26One.f k [(⟨a1_0, l1_1⟩ : S28)]).bind fun t103 => (spec_RankedFeatures.j0 k l0 (!t103) a1_0 l1_1)) else (spec_RankedFeatures.j0 k l0 true a1_0 l1_1))
set_option maxHeartbeats 8000000 in
set_option maxRecDepth 100000 in
theorem spec_RankedFeatures.calls (k : Nat) (A0 : Option Addr) (c0 : Nat) (l0 : List (S28)) (a1_0 : ByteArray) (A1_1 : Option Addr) (c1_1 : Nat) (l1_1 : List Int) (r1 : List Int) (r2 : Int) (w : World) (hr0 : Kd.C k28 w A0 l0.length l0) (hc0 : l0.length ≤ c0) (hr1_1 : Kd.C (Kd.int .i64) w A1_1 l1_1.length l1_1) (hc1_1 : l1_1.length ≤ c1_1) (h : spec_RankedFeatures.f k l0 a1_0 l1_1 = some (r1, r2)) :
    Calls Try.prog 44 #[.slice A0 l0.length c0, .agg #[.string a1_0, .slice A1_1 l1_1.length c1_1]] w fun e w' => ∃ v0_ : Value, e = .returned (.tuple #[v0_, .int .i64 r2]) ∧ Kd.R (Kd.int .i64) 2 w' w.heap.size (fun _ => True) v0_ r1 ∧ Below w.heap.size w w' := by
  have hu28 := Try.underlying28
  have HR0 := Aside0.mk hr0
  have HC0 := Aside0.mk hc0
  clear hr0 hc0
  have HR1_1 := Aside0.mk hr1_1
  have HC1_1 := Aside0.mk hc1_1
  clear hr1_1 hc1_1
  have HB := Aside0.mk (Below.refl w.heap.size w)
  have H : ((spec_l26Ok.f k l0).bind fun t102 => (if t102 = true then ((spec_l26One.f k [(⟨a1_0, l1_1⟩ : S28)]).bind fun t103 => (spec_RankedFeatures.j0 k l0 (!t103) a1_0 l1_1)) else (spec_RankedFeatures.j0 k l0 true a1_0 l1_1))) = some (r1, r2) := h
  clear h
  have HC3 := Aside0.mk H
  clear H
  go_enter Try.func44, Try.ntmps44
  go_upto_region 1 with (first | ((with_reducible refine gate_dst (N := 3) rfl ?_); refine box_event ?hg (N := 3) ?hd (cs := #[.string a1_0, .slice A1_1 l1_1.length c1_1]) (t := 28) ?hr ?_; (case hd => rfl); (case hg => rfl); (case hr => first | (go_simp; done) | (go_simp; rfl)); intro gb101 hg w4 hbox hb; have n0_ := Aside0.mk (below_step (by repeat (first | (with_reducible first | exact HB.out | apply below_alloc | apply pw_below_drewN | apply below_drew1) | exact HB.out)) hb); have n1_ := Aside0.mk (hbox); have n2_ := Aside0.mk ((by rw [hg]; exact (below_size (by repeat (first | (with_reducible first | exact HB.out | apply below_alloc | apply pw_below_drewN | apply below_drew1) | exact HB.out))) : w.heap.size ≤ gb101)); have n3_ := Aside0.mk ((by rw [hg]; exact (below_size (by repeat (first | (with_reducible first | exact HB.out | apply below_alloc | apply pw_below_drewN | apply below_drew1) | exact HB.out))) : w.heap.size ≤ gb101)); clear HB; have HB := n0_; have BK101 := n1_; have GW101 := n2_; have GE101 := n3_; clear n0_ n1_ n2_ n3_; clear hb hbox hg))
  (try simp only [Act.put, List.setIfInBounds_toArray, List.set_cons_zero, List.set_cons_succ])
  go_cut [14] (fun v14 wc => ∃ (kq : Nat) (x14_2 : Bool), v14 = .bool x14_2 ∧ Aside0 (spec_RankedFeatures.j0 kq l0 x14_2 a1_0 l1_1 = some (r1, r2)) ∧ Aside0 (kq ≤ k) ∧ Aside0 (wc.heap[gb101]? = some (.cells #[.string a1_0, (.slice A1_1 l1_1.length c1_1)] 28 (0, 0))) ∧ Aside0 (Below w.heap.size w wc))
  case first =>
    have H := HC3.out
    clear HC3
    replace H := Option.bind_eq_some_iff.mp H
    obtain ⟨t102, A50, H⟩ := H
    replace H : (if t102 = true then ((spec_l26One.f k [(⟨a1_0, l1_1⟩ : S28)]).bind fun t103 => (spec_RankedFeatures.j0 k l0 (!t103) a1_0 l1_1)) else (spec_RankedFeatures.j0 k l0 true a1_0 l1_1)) = some (r1, r2) := H
    have A5 := Aside0.mk A50
    clear A50
    by_cases c6 : t102 = true
    · subst c6
      have H1 : ((spec_l26One.f k [(⟨a1_0, l1_1⟩ : S28)]).bind fun t103 => (spec_RankedFeatures.j0 k l0 (!t103) a1_0 l1_1)) = some (r1, r2) := by rw [if_pos rfl] at H; exact H
      clear H
      have H := H1
      clear H1
      replace H := Option.bind_eq_some_iff.mp H
      obtain ⟨t103, A70, H⟩ := H
      replace H : (spec_RankedFeatures.j0 k l0 (!t103) a1_0 l1_1) = some (r1, r2) := H
      have A7 := Aside0.mk A70
      clear A70
      have H' := Aside0.mk H
      clear H
      go_wp2_with (first | ((with_reducible refine gate_callee (f := 54) rfl ?_); refine goesL_ (some 9) rfl rfl Try.func54 (by kernel_rfl) rfl #[.slice A0 l0.length c0] rfl (by (try simp only [List.map_toArray, List.map_cons, List.map_nil]); first | done | rfl | (simp only [List.length_drop, List.length_take]; rfl)) ?_; (with_reducible refine (spec_l26Ok.calls k _ _ l0 true _ ?side1 ?side2 A5.out).mono ?_); (case side1 => repeat (first | exact (Kd.C_below HR0.out (by repeat (first | (with_reducible first | exact HB.out | apply below_alloc | apply pw_below_drewN | apply below_drew1 | refine below_set ?_ GE101.out) | exact HB.out))) | (with_reducible refine Kd.C_alloc ?_ _) | (with_reducible refine Kd.C_drewN ?_ _) | (with_reducible refine Kd.C_drew ?_))); (case side2 => exact HC0.out); rintro e w' ⟨rfl, ⟨nd, rfl⟩⟩; refine ⟨_, rfl, ?_⟩; (try (rw [drewN_self w4]; generalize hq_ : World.drewN w4 _ = w4; have n0_ : Aside0 (w4.heap[gb101]? = some (.cells #[.string a1_0, .slice A1_1 l1_1.length c1_1] 28 (0, 0))) := ⟨by rw [← hq_]; exact (by (with_reducible repeat (first | refine blk_drewN ?_ _ | refine blk_drew ?_ | refine blk_alloc ?_ _)); exact BK101.out)⟩; have n1_ : Aside0 (Below w.heap.size w w4) := ⟨by rw [← hq_]; exact (by repeat (first | (with_reducible first | exact HB.out | apply below_alloc | apply pw_below_drewN | apply below_drew1 | refine below_set ?_ GE101.out) | exact HB.out))⟩; clear BK101 HB hq_; have BK101 := n0_; have HB := n1_; clear n0_ n1_))) | (go_at_call 50; (with_reducible refine (spec_l26One.calls k _ [(⟨a1_0, l1_1⟩ : S28)] t103 _ ?side1 A7.out).mono ?_); (case side1 => exact (RPW.C_blk (cs := [.string a1_0, .slice A1_1 l1_1.length c1_1]) (t := 28) (g := gb101) (by (with_reducible repeat (first | refine blk_drewN ?_ _ | refine blk_drew ?_ | refine blk_alloc ?_ _)); exact BK101.out) (k28_mk _ (⟨a1_0, l1_1⟩ : S28) (by exact HC1_1.out) (by repeat (first | exact (Kd.C_below HR1_1.out HB.out) | (with_reducible refine Kd.C_alloc ?_ _) | (with_reducible refine Kd.C_drewN ?_ _) | (with_reducible refine Kd.C_drew ?_)))))); rintro e w' ⟨rfl, ⟨nd, rfl⟩⟩; (try (rw [drewN_self w4]; generalize hq_ : World.drewN w4 _ = w4; have n0_ : Aside0 (w4.heap[gb101]? = some (.cells #[.string a1_0, .slice A1_1 l1_1.length c1_1] 28 (0, 0))) := ⟨by rw [← hq_]; exact (by (with_reducible repeat (first | refine blk_drewN ?_ _ | refine blk_drew ?_ | refine blk_alloc ?_ _)); exact BK101.out)⟩; have n1_ : Aside0 (Below w.heap.size w w4) := ⟨by rw [← hq_]; exact (by repeat (first | (with_reducible first | exact HB.out | apply below_alloc | apply pw_below_drewN | apply below_drew1 | refine below_set ?_ GE101.out) | exact HB.out))⟩; clear BK101 HB hq_; have BK101 := n0_; have HB := n1_; clear n0_ n1_))))
      go_meet
      case rel => exact ⟨_, (!t103), (by first | rfl | (simp; done) | (simp [*]; done)), H', ⟨by first | omega | exact Nat.le_refl _⟩, ⟨by (with_reducible repeat (first | refine blk_drewN ?_ _ | refine blk_drew ?_ | refine blk_alloc ?_ _)); exact BK101.out⟩, ⟨by repeat (first | (with_reducible first | exact HB.out | apply below_alloc | apply pw_below_drewN | apply below_drew1 | refine below_set ?_ GE101.out) | exact HB.out)⟩⟩
    · replace c6 := Bool.eq_false_iff.mpr c6
      subst c6
      have H1 : (spec_RankedFeatures.j0 k l0 true a1_0 l1_1) = some (r1, r2) := by rw [if_neg (show ¬ (false = true) by decide)] at H; exact H
      clear H
      have H := H1
      clear H1
      have H' := Aside0.mk H
      clear H
      go_wp2_with (first | ((with_reducible refine gate_callee (f := 54) rfl ?_); refine goesL_ (some 9) rfl rfl Try.func54 (by kernel_rfl) rfl #[.slice A0 l0.length c0] rfl (by (try simp only [List.map_toArray, List.map_cons, List.map_nil]); first | done | rfl | (simp only [List.length_drop, List.length_take]; rfl)) ?_; (with_reducible refine (spec_l26Ok.calls k _ _ l0 false _ ?side1 ?side2 A5.out).mono ?_); (case side1 => repeat (first | exact (Kd.C_below HR0.out (by repeat (first | (with_reducible first | exact HB.out | apply below_alloc | apply pw_below_drewN | apply below_drew1 | refine below_set ?_ GE101.out) | exact HB.out))) | (with_reducible refine Kd.C_alloc ?_ _) | (with_reducible refine Kd.C_drewN ?_ _) | (with_reducible refine Kd.C_drew ?_))); (case side2 => exact HC0.out); rintro e w' ⟨rfl, ⟨nd, rfl⟩⟩; refine ⟨_, rfl, ?_⟩; (try (rw [drewN_self w4]; generalize hq_ : World.drewN w4 _ = w4; have n0_ : Aside0 (w4.heap[gb101]? = some (.cells #[.string a1_0, .slice A1_1 l1_1.length c1_1] 28 (0, 0))) := ⟨by rw [← hq_]; exact (by (with_reducible repeat (first | refine blk_drewN ?_ _ | refine blk_drew ?_ | refine blk_alloc ?_ _)); exact BK101.out)⟩; have n1_ : Aside0 (Below w.heap.size w w4) := ⟨by rw [← hq_]; exact (by repeat (first | (with_reducible first | exact HB.out | apply below_alloc | apply pw_below_drewN | apply below_drew1 | refine below_set ?_ GE101.out) | exact HB.out))⟩; clear BK101 HB hq_; have BK101 := n0_; have HB := n1_; clear n0_ n1_))))
      go_meet
      case rel => exact ⟨_, (true), (by first | rfl | (simp; done) | (simp [*]; done)), H', ⟨by first | omega | exact Nat.le_refl _⟩, ⟨by (with_reducible repeat (first | refine blk_drewN ?_ _ | refine blk_drew ?_ | refine blk_alloc ?_ _)); exact BK101.out⟩, ⟨by repeat (first | (with_reducible first | exact HB.out | apply below_alloc | apply pw_below_drewN | apply below_drew1 | refine below_set ?_ GE101.out) | exact HB.out)⟩⟩
  case rest =>
    clear HC3
    try clear c1
    try clear p2
    try clear c4
    try clear c5
    try clear c6
    obtain ⟨kq, x14_2, rfl, HA, HJ2, BK101, HB⟩ := hcut
    cases kq with
    | zero => exact absurd HA.out (by simp [spec_RankedFeatures.j0])
    | succ kj2 =>
      have H := HA.out
      clear HA
      simp only [spec_RankedFeatures.j0] at H
      by_cases c8 : x14_2 = true
      · subst c8
        have H1 : (some (([] : List Int), 1)) = some (r1, r2) := by rw [if_pos rfl] at H; exact H
        clear H
        have H := H1
        clear H1
        simp only [Option.some.injEq, Prod.mk.injEq] at H
        obtain ⟨rfl, rfl⟩ := H
        go_wp2
        go_ret2
        exact ⟨_, by first | rfl | (simp [errW_none, errW_some] <;> rfl) | (simp [*, errW_none, errW_some] <;> rfl), by first | exact Kd.R_nil _ _ _ _ _ | exact Kd.N_nil _ _ _ _ _ | exact Kd.V_nil _ _ _ _ _ | exact Kd.Q_nil _ _ _ _ _ | exact Kd.S_nil _ _ _ _ _, by repeat (first | (with_reducible first | exact HB.out | apply below_alloc | apply pw_below_drewN | apply below_drew1 | refine below_set ?_ GE101.out) | exact HB.out)⟩
      · replace c8 := Bool.eq_false_iff.mpr c8
        subst c8
        have H1 : (spec_RankedFeatures.l0 kj2 l0 (([] : List Int)) 0 a1_0 l1_1) = some (r1, r2) := by rw [if_neg (show ¬ (false = true) by decide)] at H; exact H
        clear H
        have H := H1
        clear H1
        obtain ⟨y104, hy104⟩ : ∃ y_ : List Int, y_ = (([] : List Int)) := ⟨_, rfl⟩
        replace H : (spec_RankedFeatures.l0 kj2 l0 y104 0 a1_0 l1_1) = some (r1, r2) := by first | (rw [hy104]; with_reducible exact H) | (have H2_ := (Option.bind_some _ _).symm.trans H; rw [hy104]; with_reducible exact H2_) | (have H2_ := (Option.bind_some _ _).symm.trans H; with_reducible exact H2_) | with_reducible exact H | (rw [hy104]; exact H) | exact H
        have Ny104 := Aside0.mk hy104
        clear hy104
        have H' := Aside0.mk H
        clear H
        go_wp2_with (first | ((with_reducible refine gate_dst (N := 15) rfl ?_); refine Kd.R_lit (Kd.int .i64) _ 2 ?hg (N := 15) ?hd (xs := ([] : List Int)) (inner := []) (ok := fun _ => True) (okp := fun _ => True) ?hr ?hp (fun _ hk => hk) trivial (Below.refl _ _) (Nat.le_refl _) (by simp) ?_; (case hd => rfl); (case hg => rfl); (case hr => first | (go_simp; done) | (go_simp; rfl)); (case hp => exact (Reps.none _ _)); intro v105 w9 ho10 hb hg_ hnew_; clear hg_ hnew_; (first | rw [← Ny104.out] at ho10 | (simp only [Int.reduceToNat] at ho10; rw [← Ny104.out] at ho10)); have n0_ := Aside0.mk (Kd.R_lower ho10 (below_size (by repeat (first | (with_reducible first | exact HB.out | apply below_alloc | apply pw_below_drewN | apply below_drew1 | refine below_set ?_ GE101.out) | exact HB.out)))); have n1_ := Aside0.mk (blk_below (g := gb101) (o := .cells #[.string a1_0, .slice A1_1 l1_1.length c1_1] 28 (0, 0)) (by (with_reducible repeat (first | refine blk_drewN ?_ _ | refine blk_drew ?_ | refine blk_alloc ?_ _)); exact BK101.out) hb); have n2_ := Aside0.mk (below_step (by repeat (first | (with_reducible first | exact HB.out | apply below_alloc | apply pw_below_drewN | apply below_drew1 | refine below_set ?_ GE101.out) | exact HB.out)) hb); clear BK101; clear HB; have HO106 := n0_; have BK101 := n1_; have HB := n2_; clear n0_ n1_ n2_; clear hb ho10))
        (try simp only [Act.put, List.setIfInBounds_toArray, List.set_cons_zero, List.set_cons_succ])
        go_loopg [6, 7] kj2 (fun kq v6 v7 w' => ∃ (x6_2 : List Int) (x7_2 : Int), v7 = .int .i64 x7_2 ∧ Aside0 (spec_RankedFeatures.l0 kq l0 x6_2 x7_2 a1_0 l1_1 = some (r1, r2)) ∧ Aside0 (kq ≤ kj2) ∧ Aside0 (Kd.R (Kd.int .i64) 2 w' w.heap.size (fun _ => True) v6 x6_2) ∧ Aside0 (w'.heap[gb101]? = some (.cells #[.string a1_0, (.slice A1_1 l1_1.length c1_1)] 28 (0, 0))) ∧ Aside0 (Below w.heap.size w w'))
        case atStart => exact ⟨(y104), (0), (by first | rfl | (simp; done) | (simp [*]; done)), H', ⟨Nat.le_refl _⟩, ⟨by (with_reducible repeat (first | apply Kd.R_alloc | apply Kd.R_drewN | apply Kd.R_drew)); exact HO106.out⟩, ⟨by (with_reducible repeat (first | refine blk_drewN ?_ _ | refine blk_drew ?_ | refine blk_alloc ?_ _)); exact BK101.out⟩, ⟨by repeat (first | (with_reducible first | exact HB.out | apply below_alloc | apply pw_below_drewN | apply below_drew1 | refine below_set ?_ GE101.out) | exact HB.out)⟩⟩
        case round =>
          clear H'
          try clear c1
          try clear p2
          try clear c4
          try clear c5
          try clear c6
          try clear c8
          try clear p2
          obtain ⟨x6_2, x7_2, rfl, HA, HK2, HO_6, BK101, HB⟩ := hrel
          cases gk with
          | zero => exact absurd HA.out (by simp [spec_RankedFeatures.l0])
          | succ k2 =>
            have H := HA.out
            clear HA
            simp only [spec_RankedFeatures.l0] at H
            by_cases c11 : x7_2 < (l0.length : Int)
            · rw [if_pos c11] at H
              have c11b0 : decide (x7_2 < (l0.length : Int)) = true := decide_eq_true c11
              clear c11
              by_cases c12 : 0 ≤ x7_2
              · rw [if_pos c12] at H
                have c12b0 : decide (0 ≤ x7_2) = true := decide_eq_true c12
                clear c12
                replace H := Option.bind_eq_some_iff.mp H
                obtain ⟨t108, A130, H⟩ := H
                replace H : (if x6_2.length < 17592186044416 then (spec_RankedFeatures.l0 k2 l0 (x6_2 ++ [wrap64 (-t108)]) (wrap64 (x7_2 + 1)) a1_0 l1_1) else (none)) = some (r1, r2) := H
                have A13 := Aside0.mk A130
                clear A130
                by_cases c14 : x6_2.length < 17592186044416
                · rw [if_pos c14] at H
                  have LMc14 := Aside0.mk c14
                  clear c14
                  obtain ⟨y109, hy109⟩ : ∃ y_ : List Int, y_ = (x6_2 ++ [wrap64 (-t108)]) := ⟨_, rfl⟩
                  replace H : (spec_RankedFeatures.l0 k2 l0 y109 (wrap64 (x7_2 + 1)) a1_0 l1_1) = some (r1, r2) := by first | (rw [hy109]; with_reducible exact H) | (have H2_ := (Option.bind_some _ _).symm.trans H; rw [hy109]; with_reducible exact H2_) | (have H2_ := (Option.bind_some _ _).symm.trans H; with_reducible exact H2_) | with_reducible exact H | (rw [hy109]; exact H) | exact H
                  have Ny109 := Aside0.mk hy109
                  clear hy109
                  have H' := Aside0.mk H
                  clear H
                  have p107 : 0 ≤ (x7_2 : Int) := of_decide_eq_true (by first | (with_reducible assumption) | assumption)
                  have q107 : x7_2 < (l0.length : Int) := of_decide_eq_true (by first | (with_reducible assumption) | assumption)
                  obtain ⟨ad107, A107_1, c107_1, e107, hx107_0, hx107_1, hl107_1, hi107_1⟩ := at_T28 HR0.out x7_2 p107 q107
                  cases e107
                  replace hx107_0 := (HB.out.cell (World.block_lt_of_cell? w _ hx107_0)).trans hx107_0
                  replace hx107_1 := (HB.out.cell (World.block_lt_of_cell? w _ hx107_1)).trans hx107_1
                  have HR107_1 := Aside0.mk hi107_1
                  have HC107_1 := Aside0.mk hl107_1
                  clear hi107_1 hl107_1
                  replace p107 := eq_true p107
                  replace q107 := eq_true q107
                  go_wp2_with (first | ((with_reducible refine gate_callee (f := 51) rfl ?_); refine goesL_ (some 26) rfl rfl Try.func51 (by kernel_rfl) rfl #[.pointer (some ((ad107.add ((x7_2 : Int).toNat * 2)).add 0)), .pointer (some (Addr.add ⟨gb101, 0, none⟩ 0))] rfl (by (try simp only [List.map_toArray, List.map_cons, List.map_nil]); first | done | rfl | (simp only [List.length_drop, List.length_take]; rfl)) ?_; (with_reducible refine (spec_l26Away.calls k2 _ [rd_T28 l0 x7_2] _ [(⟨a1_0, l1_1⟩ : S28)] t108 _ ?side1 ?side2 A13.out).mono ?_); (case side1 => exact (RPW.C_elem (ad := ad107) (n := l0.length) (xs := l0) z28 (i := x7_2) (by first | exact of_eq_true p107 | exact p107 | omega) (by first | exact of_eq_true q107 | exact q107 | omega) (by repeat (first | exact (Kd.C_below HR0.out (by repeat (first | (with_reducible first | exact HB.out | apply below_alloc | apply pw_below_drewN | apply below_drew1 | refine below_set ?_ GE101.out) | exact HB.out))) | (with_reducible refine Kd.C_alloc ?_ _) | (with_reducible refine Kd.C_drewN ?_ _) | (with_reducible refine Kd.C_drew ?_))))); (case side2 => exact (RPW.C_blk (cs := [.string a1_0, .slice A1_1 l1_1.length c1_1]) (t := 28) (g := gb101) (by (with_reducible repeat (first | refine blk_drewN ?_ _ | refine blk_drew ?_ | refine blk_alloc ?_ _)); exact BK101.out) (k28_mk _ (⟨a1_0, l1_1⟩ : S28) (by exact HC1_1.out) (by repeat (first | exact (Kd.C_below HR1_1.out (by repeat (first | (with_reducible first | exact HB.out | apply below_alloc | apply pw_below_drewN | apply below_drew1 | refine below_set ?_ GE101.out) | exact HB.out))) | (with_reducible refine Kd.C_alloc ?_ _) | (with_reducible refine Kd.C_drewN ?_ _) | (with_reducible refine Kd.C_drew ?_)))))); rintro e w' ⟨rfl, ⟨nd, rfl⟩⟩; refine ⟨_, rfl, ?_⟩; (try (rw [drewN_self wr]; generalize hq_ : World.drewN wr _ = wr; have n0_ : Aside0 (Kd.R (Kd.int .i64) 2 wr w.heap.size (fun k_ => True) u6 x6_2) := ⟨by rw [← hq_]; exact (by (with_reducible repeat (first | apply Kd.R_alloc | apply Kd.R_drewN | apply Kd.R_drew)); exact HO_6.out)⟩; have n1_ : Aside0 (wr.heap[gb101]? = some (.cells #[.string a1_0, .slice A1_1 l1_1.length c1_1] 28 (0, 0))) := ⟨by rw [← hq_]; exact (by (with_reducible repeat (first | refine blk_drewN ?_ _ | refine blk_drew ?_ | refine blk_alloc ?_ _)); exact BK101.out)⟩; have n2_ : Aside0 (Below w.heap.size w wr) := ⟨by rw [← hq_]; exact (by repeat (first | (with_reducible first | exact HB.out | apply below_alloc | apply pw_below_drewN | apply below_drew1 | refine below_set ?_ GE101.out) | exact HB.out))⟩; clear HO_6 BK101 HB hq_; have HO_6 := n0_; have BK101 := n1_; have HB := n2_; clear n0_ n1_ n2_))) | ((with_reducible refine gate_builtin (b := .append) (xs := #[.tmp 22, .tmp 28]) rfl ?_); at_builtin; refine Kd.R_append (Kd.int .i64) (w0 := w) w.heap.size rfl (.tmp 22) (.tmp 28) 22 2 (.int .i64 0) 8 rfl Try.underlying22 info2 rfl (by decide) (by omega) u6 x6_2 (wrap64 (-t108)) [.int .i64 (wrap64 (-t108))] (fun _ => True) (fun _ => False) rfl rfl ?aP (fun _ hk => hk.elim) ?aF ?aO ?aB ?aS ?aL ?_; (case aP => exact rfl); (case aB => exact (by repeat (first | (with_reducible first | exact HB.out | apply below_alloc | apply pw_below_drewN | apply below_drew1 | refine below_set ?_ GE101.out) | exact HB.out))); (case aF => exact (fun _ _ => trivial)); (case aO => exact (by (with_reducible repeat (first | apply Kd.R_alloc | apply Kd.R_drewN | apply Kd.R_drew)); exact HO_6.out)); (case aS => exact (below_size (by repeat (first | (with_reducible first | exact HB.out | apply below_alloc | apply pw_below_drewN | apply below_drew1 | refine below_set ?_ GE101.out) | exact HB.out)))); (case aL => have := LMc14.out; omega); intro v110 w15 ho hb hg hat; rw [← Ny109.out] at ho; have n0_ := Aside0.mk (blk_grown (g := gb101) (o := .cells #[.string a1_0, .slice A1_1 l1_1.length c1_1] 28 (0, 0)) (by (with_reducible repeat (first | refine blk_drewN ?_ _ | refine blk_drew ?_ | refine blk_alloc ?_ _)); exact BK101.out) hg (Kd.R_ne HO_6.out BK101.out (by decide))); have n1_ := Aside0.mk (hb); have n2_ := Aside0.mk (ho); clear BK101; clear HB; clear HO_6; have BK101 := n0_; have HB := n1_; have HO111 := n2_; clear n0_ n1_ n2_; clear ho hb hg hat))
                  go_roundg k2
                  case measure => have := HJ2.out; have := HK2.out; omega
                  case rel => exact ⟨(y109), (wrap64 (x7_2 + 1)), (by first | rfl | (simp; done) | (simp [*]; done)), H', ⟨by have := HJ2.out; have := HK2.out; omega⟩, ⟨by (with_reducible repeat (first | apply Kd.R_alloc | apply Kd.R_drewN | apply Kd.R_drew)); exact HO111.out⟩, ⟨by (with_reducible repeat (first | refine blk_drewN ?_ _ | refine blk_drew ?_ | refine blk_alloc ?_ _)); exact BK101.out⟩, ⟨by repeat (first | (with_reducible first | exact HB.out | apply below_alloc | apply pw_below_drewN | apply below_drew1 | refine below_set ?_ GE101.out) | exact HB.out)⟩⟩
                · rw [if_neg c14] at H
                  exact absurd H (by simp)
              · rw [if_neg c12] at H
                exact absurd H (by simp)
            · rw [if_neg c11] at H
              have c11b0 : decide (x7_2 < (l0.length : Int)) = false := decide_eq_false c11
              clear c11
              replace H := Option.bind_eq_some_iff.mp H
              obtain ⟨t112, A160, H⟩ := H
              replace H : (some (t112, 0)) = some (r1, r2) := H
              have A16 := Aside0.mk A160
              clear A160
              simp only [Option.some.injEq, Prod.mk.injEq] at H
              obtain ⟨rfl, rfl⟩ := H
              obtain ⟨Ao17, co17, eo17⟩ := Kd.R_slice HO_6.out
              subst eo17
              go_wp2_with (first | ((with_reducible refine gate_callee (f := 74) rfl ?_); refine goesL_ (some 31) rfl rfl Try.func74 (by kernel_rfl) rfl #[.slice Ao17 x6_2.length co17] rfl (by (try simp only [List.map_toArray, List.map_cons, List.map_nil]); first | done | rfl | (simp only [List.length_drop, List.length_take]; rfl)) ?_; (with_reducible refine (spec_l14Order.calls k2 _ _ x6_2 t112 _ ?side1 ?side2 A16.out).mono ?_); (case side1 => repeat (first | exact (Kd.R_reads' HO_6.out).2.2 | (with_reducible refine Kd.C_alloc ?_ _) | (with_reducible refine Kd.C_drewN ?_ _) | (with_reducible refine Kd.C_drew ?_))); (case side2 => exact (Kd.R_reads' HO_6.out).2.1); rintro e w18 ⟨v113, rfl, ho0, hb⟩; refine ⟨_, rfl, ?_⟩; have n0_ := Aside0.mk (Kd.R_elder' (by (with_reducible repeat (first | apply Kd.R_alloc | apply Kd.R_drewN | apply Kd.R_drew)); exact HO_6.out) (Kd.R_base ho0) hb); have n1_ := Aside0.mk (Kd.R_lower (Kd.R_new' ho0 (Kd.R_lt (by (with_reducible repeat (first | apply Kd.R_alloc | apply Kd.R_drewN | apply Kd.R_drew)); exact HO_6.out))) (below_size (by repeat (first | (with_reducible first | exact HB.out | apply below_alloc | apply pw_below_drewN | apply below_drew1 | refine below_set ?_ GE101.out) | exact HB.out)))); have n2_ := Aside0.mk (blk_below (g := gb101) (o := .cells #[.string a1_0, .slice A1_1 l1_1.length c1_1] 28 (0, 0)) (by (with_reducible repeat (first | refine blk_drewN ?_ _ | refine blk_drew ?_ | refine blk_alloc ?_ _)); exact BK101.out) hb); have n3_ := Aside0.mk (below_step (by repeat (first | (with_reducible first | exact HB.out | apply below_alloc | apply pw_below_drewN | apply below_drew1 | refine below_set ?_ GE101.out) | exact HB.out)) hb); clear HO_6; clear BK101; clear HB; have HO_6 := n0_; have HO114 := n1_; have BK101 := n2_; have HB := n3_; clear n0_ n1_ n2_ n3_; (try clear hb); (try clear hb2); (try clear hk); (try clear hi); (try clear ho0)))
              go_ret2
              exact ⟨_, by first | rfl | (simp [errW_none, errW_some] <;> rfl) | (simp [*, errW_none, errW_some] <;> rfl), by (with_reducible repeat (first | apply Kd.R_alloc | apply Kd.R_drewN | apply Kd.R_drew)); exact Kd.R_mono HO114.out (fun _ hk => trivial), by repeat (first | (with_reducible first | exact HB.out | apply below_alloc | apply pw_below_drewN | apply below_drew1 | refine below_set ?_ GE101.out) | exact HB.out)⟩
end Go.Proofs.Yteafahnopgmgoaa.Q
namespace Go.Proofs.Yteafahnopgmgoaa.Q
open Go.RowKit Go.Proofs.YteafahnopgmgoaaW.PrintWords Go.Proofs.YteafahnopgmgoaaW.PrintLast Go.Proofs.YteafahnopgmgoaaW.PrintMore
def okB (x : Int) : Bool := decide (0 ≤ x) && decide (x ≤ 255)
theorem rd_nat (l : List Int) (i : Nat) (h : i < l.length) : rd l (i : Int) = l[i] := by unfold rd; simp [List.getD, h]
theorem one_loop (x : S28) (hl : x.f1.length < 4611686018427387904) : ∀ (d i : Nat), i + d = x.f1.length → ∀ k, d < k → spec_l26One.l0 k [x] i = some ((x.f1.drop i).all okB) := by
  intro d
  have hrd : rd_T28 [x] 0 = x := rfl
  induction d with
  | zero =>
    intro i h k hk
    obtain ⟨k, rfl⟩ : ∃ m, k = m + 1 := ⟨k - 1, by omega⟩
    simp only [spec_l26One.l0, hrd]
    rw [if_pos (by simp), if_neg (by omega), List.drop_of_length_le (by omega)]
    rfl
  | succ d ih =>
    intro i h k hk
    obtain ⟨k, rfl⟩ : ∃ m, k = m + 1 := ⟨k - 1, by omega⟩
    simp only [spec_l26One.l0, hrd]
    rw [if_pos (by simp), if_pos (by omega), if_pos (by omega), rd_nat _ _ (by omega), in_f]
    simp only [Option.bind_some]
    rw [w64 (by omega) (by omega), show (i : Int) + 1 = ((i + 1 : Nat) : Int) by omega, ih (i + 1) (by omega) k (by omega), List.drop_eq_getElem_cons (show i < x.f1.length by omega), List.all_cons, ite_and]
    rfl
theorem index_loop (l : List Int) (hl : l.length < 4611686018427387904) : ∀ (d i : Nat), i + d = l.length → ∃ r, decide (r ≥ 0) = !((l.drop i).all okB) ∧ ∀ k, d < k → slices_IndexFunc_int64_int64.l0 k l (l.length : Int) i = some r := by
  intro d
  induction d with
  | zero =>
    intro i h
    refine ⟨-1, by rw [List.drop_of_length_le (by omega)]; rfl, fun k hk => ?_⟩
    obtain ⟨k, rfl⟩ : ∃ m, k = m + 1 := ⟨k - 1, by omega⟩
    simp only [slices_IndexFunc_int64_int64.l0]
    rw [if_neg (by omega)]
  | succ d ih =>
    intro i h
    cases hc : okB l[i]
    · refine ⟨i, by rw [List.drop_eq_getElem_cons (show i < l.length by omega), List.all_cons, hc]; simp, fun k hk => ?_⟩
      obtain ⟨k, rfl⟩ : ∃ m, k = m + 1 := ⟨k - 1, by omega⟩
      simp only [slices_IndexFunc_int64_int64.l0, impl_ValidFeature_1.f]
      rw [if_pos (by omega), if_pos (by omega), if_pos (by omega), rd_nat _ _ (by omega), within_f]
      simp only [Option.bind_some]
      rw [show (decide (0 ≤ l[i]) && decide (l[i] ≤ 255)) = false from hc]
      simp
    · obtain ⟨r, hr, hk0⟩ := ih (i + 1) (by omega)
      refine ⟨r, by rw [List.drop_eq_getElem_cons (show i < l.length by omega), List.all_cons, hc, hr]; simp, fun k hk => ?_⟩
      obtain ⟨k, rfl⟩ : ∃ m, k = m + 1 := ⟨k - 1, by omega⟩
      simp only [slices_IndexFunc_int64_int64.l0, impl_ValidFeature_1.f]
      rw [if_pos (by omega), if_pos (by omega), if_pos (by omega), rd_nat _ _ (by omega), within_f]
      simp only [Option.bind_some]
      rw [show (decide (0 ≤ l[i]) && decide (l[i] ≤ 255)) = true from hc]
      simp only [Bool.not_true, Bool.false_eq_true, if_false]
      rw [w64 (by omega) (by omega), show (i : Int) + 1 = ((i + 1 : Nat) : Int) by omega, hk0 k (by omega)]
theorem valid_ev (a : ByteArray) (l : List Int) : ∃ b, (b = true → l.length = 6 ∧ l.all okB = true) ∧ ∀ k, 20 < k → spec_l26One.f k [(⟨a, l⟩ : S28)] = some b ∧ impl_ValidFeature.f k a l = some b := by
  obtain ⟨b, hb⟩ := name_ev a
  have hrd : rd_T28 [(⟨a, l⟩ : S28)] 0 = ⟨a, l⟩ := rfl
  cases b with
  | false =>
    refine ⟨false, fun h => (by cases h), fun k hk => ⟨?_, ?_⟩⟩
    · unfold spec_l26One.f
      rw [if_pos (by simp), hrd, name_same, hb k (by omega)]
      obtain ⟨k, rfl⟩ : ∃ m, k = m + 1 := ⟨k - 1, by omega⟩
      simp [spec_l26One.j0]
    · unfold impl_ValidFeature.f
      rw [hb k (by omega)]
      simp
  | true =>
    by_cases h6 : l.length = 6
    · obtain ⟨r, hr, hk0⟩ := index_loop l (by omega) 6 0 (by omega)
      rw [List.drop_zero] at hr
      refine ⟨l.all okB, fun h => ⟨h6, h⟩, fun k hk => ⟨?_, ?_⟩⟩
      · unfold spec_l26One.f
        rw [if_pos (by simp), hrd, name_same, hb k (by omega)]
        obtain ⟨k, rfl⟩ : ∃ m, k = m + 1 := ⟨k - 1, by omega⟩
        have := one_loop ⟨a, l⟩ (by simp only []; omega) 6 0 (by simp only []; omega) k (by omega)
        simp only [List.drop_zero] at this
        simp [spec_l26One.j0, h6]
        simpa using this
      · unfold impl_ValidFeature.f slices_ContainsFunc_int64_int64.f slices_IndexFunc_int64_int64.f
        rw [hb k (by omega)]
        have := hk0 k (by omega)
        simp only [Option.bind_some, if_true]
        rw [if_pos (by omega), show ((0 : Int)) = ((0 : Nat) : Int) from rfl, this]
        simp only [Option.bind_some]
        rw [show decide (r ≥ ((0 : Nat) : Int)) = decide (r ≥ 0) from rfl, hr]
        simp
    · refine ⟨false, fun h => (by cases h), fun k hk => ⟨?_, ?_⟩⟩
      · unfold spec_l26One.f
        rw [if_pos (by simp), hrd, name_same, hb k (by omega)]
        obtain ⟨k, rfl⟩ : ∃ m, k = m + 1 := ⟨k - 1, by omega⟩
        simp [spec_l26One.j0, show ¬ (l.length : Int) = 6 by omega]
      · unfold impl_ValidFeature.f
        rw [hb k (by omega)]
        simp only [Option.bind_some, if_true]
        rw [if_neg (by omega)]
end Go.Proofs.Yteafahnopgmgoaa.Q
namespace Go.Proofs.Yteafahnopgmgoaa.Q
open Go.RowKit Go.Proofs.YteafahnopgmgoaaW.PrintWords Go.Proofs.YteafahnopgmgoaaW.PrintLast Go.Proofs.YteafahnopgmgoaaW.PrintMore
theorem rd_F (l : List S28) (i : Nat) (h : i < l.length) : rd_T28 l (i : Int) = l[i] := by unfold rd_T28; simp [List.getD, h]
theorem validS_ev (m : List S28) (hl : (m.length : Int) ≤ 1048576) : ∃ b, (b = true → m.length ≤ 16 ∧ ∀ y ∈ m, y.f1.length = 6 ∧ y.f1.all okB = true) ∧ ∀ k, 2000000 < k → spec_l26Ok.f k m = some b ∧ impl_ValidFeatures.f k m = some b := by
  have go : ∀ (d i : Nat), i + d = m.length → ∃ b, (b = true → m.length ≤ 16 ∧ ∀ y ∈ m.drop i, y.f1.length = 6 ∧ y.f1.all okB = true) ∧ ∀ k, d + 30 < k → spec_l26Ok.l0 k m i = some b ∧ impl_ValidFeatures.l0 k m m (m.length : Int) i = some b := by
    intro d
    induction d with
    | zero =>
      intro i h1
      refine ⟨decide ((m.length : Int) ≤ 16), fun h => ⟨by have := of_decide_eq_true h; omega, by rw [List.drop_of_length_le (by omega)]; simp⟩, fun k hk => ?_⟩
      obtain ⟨k, rfl⟩ : ∃ m, k = m + 1 := ⟨k - 1, by omega⟩
      simp only [spec_l26Ok.l0, impl_ValidFeatures.l0]
      rw [if_neg (by omega), if_neg (by omega)]
      exact ⟨rfl, rfl⟩
    | succ d ih =>
      intro i h1
      obtain ⟨b, hb, hv⟩ := valid_ev m[i].f0 m[i].f1
      have e1 : ∀ k, 20 < k → spec_l26One.f k [m[i]] = some b := fun k h => (hv k h).1
      have e2 : ∀ k, 20 < k → impl_ValidFeature.f k m[i].f0 m[i].f1 = some b := fun k h => (hv k h).2
      obtain ⟨c, hc, hk0⟩ := ih (i + 1) (by omega)
      have g1 : ((i : Int) < (m.length : Int)) = True := eq_true (by omega)
      have g2 : (0 ≤ (i : Int)) = True := eq_true (by omega)
      have g3 := rd_F m i (by omega)
      have g4 : wrap64 ((i : Int) + 1) = ((i + 1 : Nat) : Int) := by rw [w64 (by omega) (by omega)]; omega
      have gf : (false = true) = False := by simp
      cases b with
      | false =>
        refine ⟨false, fun h => (by cases h), fun k hk => ?_⟩
        obtain ⟨k, rfl⟩ : ∃ m, k = m + 1 := ⟨k - 1, by omega⟩
        simp only [spec_l26Ok.l0, impl_ValidFeatures.l0, g1, g2, g3, if_true, e1 k (by omega), e2 k (by omega), Option.bind_some, gf, if_false]
        exact ⟨trivial, trivial⟩
      | true =>
        have hcons : c = true → m.length ≤ 16 ∧ ∀ y ∈ m.drop i, y.f1.length = 6 ∧ y.f1.all okB = true := by
          intro h
          obtain ⟨c1, c2⟩ := hc h
          refine ⟨c1, ?_⟩
          rw [List.drop_eq_getElem_cons (show i < m.length by omega)]
          intro y hy
          rcases List.mem_cons.1 hy with rfl | hy
          · exact hb rfl
          · exact c2 y hy
        by_cases hi : i = 0
        · have g5 : ((i : Int) > 0) = False := eq_false (by omega)
          refine ⟨c, hcons, fun k hk => ?_⟩
          obtain ⟨k, rfl⟩ : ∃ m, k = m + 1 := ⟨k - 1, by omega⟩
          obtain ⟨f1, f2⟩ := hk0 k (by omega)
          simp only [spec_l26Ok.l0, impl_ValidFeatures.l0, g1, g2, g3, if_true, e1 k (by omega), e2 k (by omega), Option.bind_some, g5, if_false, g4]
          exact ⟨f1, f2⟩
        · have g5 : ((i : Int) > 0) = True := eq_true (by omega)
          have g6 : wrap64 ((i : Int) - 1) = (i : Int) - 1 := w64 (by omega) (by omega)
          have g7 : (0 ≤ (i : Int) - 1) = True := eq_true (by omega)
          have g8 : ((i : Int) - 1 < (m.length : Int)) = True := eq_true (by omega)
          cases hlt : Op.bytesLess ((rd_T28 m ((i : Int) - 1)).f0).toList (m[i].f0).toList with
          | true =>
            refine ⟨c, hcons, fun k hk => ?_⟩
            obtain ⟨k, rfl⟩ : ∃ m, k = m + 1 := ⟨k - 1, by omega⟩
            obtain ⟨f1, f2⟩ := hk0 k (by omega)
            simp only [spec_l26Ok.l0, impl_ValidFeatures.l0, g1, g2, g3, if_true, e1 k (by omega), e2 k (by omega), Option.bind_some, g5, g6, g7, g8, hlt, g4]
            exact ⟨f1, f2⟩
          | false =>
            refine ⟨false, fun h => (by cases h), fun k hk => ?_⟩
            obtain ⟨k, rfl⟩ : ∃ m, k = m + 1 := ⟨k - 1, by omega⟩
            simp only [spec_l26Ok.l0, impl_ValidFeatures.l0, g1, g2, g3, if_true, e1 k (by omega), e2 k (by omega), Option.bind_some, g5, g6, g7, g8, hlt, gf, if_false]
            exact ⟨trivial, trivial⟩
  obtain ⟨b, hb, hk0⟩ := go m.length 0 (by omega)
  exact ⟨b, by simpa using hb, fun k hk => hk0 k (by omega)⟩
end Go.Proofs.Yteafahnopgmgoaa.Q
namespace Go.Proofs.Yteafahnopgmgoaa.Q
open Go.RowKit Go.Proofs.YteafahnopgmgoaaW.PrintWords Go.Proofs.YteafahnopgmgoaaW.PrintLast Go.Proofs.YteafahnopgmgoaaW.PrintMore
set_option linter.unusedVariables false
abbrev Fe := S28
def vF (x : Fe) : Prop := x.f1.length = 6 ∧ x.f1.all okB = true
theorem Ev_all {α : Type} {g : Nat → Option α} {r : α} {n : Nat} (h : ∀ k, n < k → g k = some r) : Ev g r := ⟨n + 1, fun k hk => h k (by omega)⟩
theorem rdF_one (x : Fe) : rd_T28 [x] 0 = x := rfl
theorem rdF_in (l : List Fe) (i : Nat) (h : i < l.length) : rd_T28 l (i : Int) = l[i] := by unfold rd_T28; exact getD_in l _ i h
theorem away2_ev (x y : Fe) (hx : vF x) (hy : vF y) : ∃ v : Int, 0 ≤ v ∧ v ≤ 1530 ∧ Ev (fun k => spec_l26Away.f k [x] [y]) v ∧ Ev (fun k => impl_featureDistance.f k x.f0 x.f1 y.f0 y.f1) v := by
  obtain ⟨a, l⟩ := x
  obtain ⟨b, m⟩ := y
  obtain ⟨hl, h1⟩ := hx
  obtain ⟨hm, h2⟩ := hy
  simp only [] at hl h1 hm h2
  have go : ∀ (d i : Nat) (c : Int), i + d = 6 → 0 ≤ c → c ≤ 255 * (i : Int) → ∃ v, 0 ≤ v ∧ v ≤ 1530 ∧ Ev (fun k => spec_l26Away.l0 k [(⟨a, l⟩ : Fe)] [(⟨b, m⟩ : Fe)] c i) v ∧ Ev (fun k => impl_featureDistance.l0 k c l (l.length : Int) i b m) v := by
    intro d
    induction d with
    | zero =>
      intro i c h c0 c1
      refine ⟨c, c0, by omega, Ev_suc ?_, Ev_suc ?_⟩
      · simp only [spec_l26Away.l0]; exact Ev_f (by omega) (Ev_n rfl)
      · simp only [impl_featureDistance.l0]; exact Ev_f (by omega) (Ev_n rfl)
    | succ d ih =>
      intro i c h c0 c1
      have g1 : 0 ≤ l[i] ∧ l[i] ≤ 255 := by simpa [okB] using (List.all_eq_true.mp h1) l[i] (List.getElem_mem _)
      have g2 : 0 ≤ m[i] ∧ m[i] ≤ 255 := by simpa [okB] using (List.all_eq_true.mp h2) m[i] (List.getElem_mem _)
      have e1 : spec_l00Max.f (wrap64 (l[i] - m[i])) (wrap64 (m[i] - l[i])) = some (if l[i] ≤ m[i] then m[i] - l[i] else l[i] - m[i]) := by
        unfold spec_l00Max.f
        rw [w64 (x := l[i] - m[i]) (by omega) (by omega), w64 (x := m[i] - l[i]) (by omega) (by omega)]
        split <;> split <;> first | rfl | (congr 1; omega) | omega
      have e2 : impl_absolute.f (wrap64 (l[i] - m[i])) = some (if l[i] ≤ m[i] then m[i] - l[i] else l[i] - m[i]) := by
        unfold impl_absolute.f
        rw [w64 (x := l[i] - m[i]) (by omega) (by omega), w64 (by omega) (by omega)]
        unfold mx
        split <;> split <;> first | rfl | (congr 1; omega) | omega
      obtain ⟨t, ht⟩ : ∃ t, t = (if l[i] ≤ m[i] then m[i] - l[i] else l[i] - m[i]) := ⟨_, rfl⟩
      have t0 : 0 ≤ t ∧ t ≤ 255 := by rw [ht]; split <;> omega
      rw [← ht] at e1 e2
      obtain ⟨v, v0, v1, q1, q2⟩ := ih (i + 1) (c + t) (by omega) (by omega) (by omega)
      refine ⟨v, v0, v1, Ev_suc ?_, Ev_suc ?_⟩
      · simp only [spec_l26Away.l0, rdF_one]
        refine Ev_t (by omega) (Ev_t (by simp) (Ev_t (by omega) (Ev_t (by omega) (Ev_t (by simp) (Ev_t (by omega) ?_)))))
        rw [rd_nat l i (by omega), rd_nat m i (by omega)]
        refine Ev_b (Ev_c e1) ?_
        rw [wr64 (x := c + t) (by omega) (by omega), wr64s i (by omega)]
        exact q1
      · simp only [impl_featureDistance.l0]
        refine Ev_t (by omega) (Ev_t (by omega) (Ev_t (by omega) (Ev_t (by omega) ?_)))
        rw [rd_nat l i (by omega), rd_nat m i (by omega)]
        refine Ev_b (Ev_c e2) ?_
        rw [wr64 (x := c + t) (by omega) (by omega), wr64s i (by omega)]
        exact q2
  obtain ⟨v, v0, v1, q1, q2⟩ := go 6 0 0 rfl (by omega) (by omega)
  refine ⟨v, v0, v1, ?_, ?_⟩
  · simp only [spec_l26Away.f]; exact q1
  · simp only [impl_featureDistance.f]; exact q2
theorem dist_fun (m : List Fe) (f : Fe) (hm : ∀ y ∈ m, vF y) (hf : vF f) : ∃ D : Nat → Int, ∀ i (h : i < m.length), 0 ≤ D i ∧ D i ≤ 1530 ∧ Ev (fun k => spec_l26Away.f k [m[i]] [f]) (D i) ∧ Ev (fun k => impl_featureDistance.f k m[i].f0 m[i].f1 f.f0 f.f1) (D i) := by
  have : ∀ i, ∃ v : Int, ∀ h : i < m.length, 0 ≤ v ∧ v ≤ 1530 ∧ Ev (fun k => spec_l26Away.f k [m[i]] [f]) v ∧ Ev (fun k => impl_featureDistance.f k m[i].f0 m[i].f1 f.f0 f.f1) v := by
    intro i
    by_cases h : i < m.length
    · obtain ⟨v, hv⟩ := away2_ev m[i] f (hm _ (List.getElem_mem _)) hf
      exact ⟨v, fun _ => hv⟩
    · exact ⟨0, fun h' => absurd h' h⟩
  exact Classical.axiomOfChoice this
def insr (D : Nat → Int) (x : Nat) : List Nat → List Nat
  | [] => [x]
  | y :: r => if D x < D y then y :: insr D x r else x :: y :: r
theorem insr_mem (D : Nat → Int) (x z : Nat) : ∀ r, z ∈ insr D x r ↔ z = x ∨ z ∈ r
  | [] => by simp [insr]
  | y :: r => by
    unfold insr
    split
    · simp only [List.mem_cons, insr_mem D x z r]
      constructor
      · rintro (h | h | h) <;> simp [h]
      · rintro (h | h | h) <;> simp [h]
    · simp only [List.mem_cons]
theorem insr_len (D : Nat → Int) (x : Nat) : ∀ r, (insr D x r).length = r.length + 1
  | [] => rfl
  | y :: r => by
    unfold insr
    split
    · simp [insr_len D x r]
    · simp
def ranks (D : Nat → Int) : Nat → List Nat
  | 0 => []
  | n + 1 => insr D n (ranks D n)
theorem ranks_mem (D : Nat → Int) : ∀ n z, z ∈ ranks D n ↔ z < n
  | 0, z => by simp [ranks]
  | n + 1, z => by rw [ranks, insr_mem, ranks_mem D n z]; omega
theorem ranks_len (D : Nat → Int) : ∀ n, (ranks D n).length = n
  | 0 => rfl
  | n + 1 => by rw [ranks, insr_len, ranks_len D n]
def up (r : List Nat) : List Int := r.reverse.map (fun (i : Nat) => (i : Int))
theorem up_cons (y : Nat) (r : List Nat) : up (y :: r) = up r ++ [(y : Int)] := by simp [up]
theorem up_len (r : List Nat) : (up r).length = r.length := by simp [up]
theorem rd_mid (a b : List Int) (x : Int) (i : Nat) (h : a.length = i) : rd (a ++ x :: b) (i : Int) = x := by unfold rd; exact getD_at a b _ x i h
theorem spec_ins (D : Nat → Int) (n : Nat) (ds : List Int) (hn : ds.length = n) (hsm : n ≤ 1000) (hd : ∀ i, i < n → rd ds (i : Int) = - D i) (x : Nat) (hx : x < n) (R : List Int) : ∀ (r : List Nat) (b : List Int), (∀ z ∈ r, z < n) → r.length + b.length ≤ 2000 →
    Ev (fun k => spec_l14Order.l0 k ds (up (insr D x r) ++ b) ((x + 1 : Nat) : Int)) R → Ev (fun k => spec_l14Order.l1 k ds (up r ++ b) x (r.length : Int)) R := by
  intro r
  have own : ∀ l : List Int, l.length ≤ 2000 → spec_l00Own.f l = some l := fun l hl => by
    unfold spec_l00Own.f
    simp only [Option.bind_some]
    rw [if_pos (by simp; omega)]; rfl
  induction r with
  | nil =>
    intro b _ hl h
    refine Ev_suc ?_
    simp only [spec_l14Order.l1, up, List.reverse_nil, List.map_nil, List.nil_append]
    refine Ev_f (by simp) (Ev_t (by simp) (Ev_t (by simp) ?_))
    simp only [List.length_nil] at hl
    refine Ev_b (Ev_c (own _ (by simp))) ?_
    refine Ev_t (by simp) (Ev_s (Ev_s (Ev_t (by simp; omega) ?_)))
    rw [wr64s x (by omega)]
    simpa [up, insr] using h
  | cons y r ih =>
    intro b hz hl h
    have hy : y < n := hz y (List.mem_cons_self ..)
    simp only [List.length_cons] at hl
    have e1 : wrap64 (((r.length + 1 : Nat) : Int) - 1) = (r.length : Int) := by rw [wr64 (by omega) (by omega)]; omega
    have e2 : rd (up (y :: r) ++ b) (r.length : Int) = (y : Int) := by rw [up_cons, List.append_assoc, List.singleton_append]; exact rd_mid _ _ _ _ (up_len r)
    have e3 : (up (y :: r) ++ b).length = r.length + 1 + b.length := by simp [up_len]
    refine Ev_suc ?_
    simp only [spec_l14Order.l1, List.length_cons, e1, e2, hd y hy, hd x hx]
    refine Ev_t (by omega) (Ev_t (by omega) (Ev_t (by rw [e3]; omega) (Ev_t (by omega) (Ev_t (by omega) (Ev_t (by omega) (Ev_t (by omega) ?_))))))
    by_cases c : D x < D y
    · refine Ev_t (by omega) ?_
      rw [up_cons, List.append_assoc, List.singleton_append]
      refine ih ((y : Int) :: b) (fun z h => hz z (List.mem_cons_of_mem _ h)) (by simp; omega) ?_
      rw [insr, if_pos c, up_cons, List.append_assoc, List.singleton_append] at h
      exact h
    · refine Ev_f (by omega) (Ev_t (by omega) (Ev_t (by rw [e3]; omega) ?_))
      have e4 : (up (y :: r) ++ b).take ((r.length + 1 : Nat) : Int).toNat = up (y :: r) := by rw [Int.toNat_natCast]; exact List.take_left' (by simp [up_len])
      have e5 : (up (y :: r) ++ b).drop ((r.length + 1 : Nat) : Int).toNat = b := by rw [Int.toNat_natCast]; exact List.drop_left' (by simp [up_len])
      rw [e4, e5]
      refine Ev_b (Ev_c (own _ (by simp [up_len]; omega))) ?_
      refine Ev_t (by simp [up_len]; omega) (Ev_s (Ev_s (Ev_t (by simp [up_len]; omega) ?_)))
      rw [wr64s x (by omega)]
      rw [insr, if_neg c, up_cons] at h
      exact h
theorem spec_order (D : Nat → Int) (n : Nat) (ds : List Int) (hn : ds.length = n) (hsm : n ≤ 1000) (hd : ∀ i, i < n → rd ds (i : Int) = - D i) : Ev (fun k => spec_l14Order.f k ds) (up (ranks D n)) := by
  have go : ∀ (d i : Nat), i + d = n → Ev (fun k => spec_l14Order.l0 k ds (up (ranks D i)) i) (up (ranks D n)) := by
    intro d
    induction d with
    | zero =>
      intro i h
      refine Ev_suc ?_
      simp only [spec_l14Order.l0]
      obtain rfl : i = n := by omega
      exact Ev_f (by omega) (Ev_n rfl)
    | succ d ih =>
      intro i h
      refine Ev_suc ?_
      simp only [spec_l14Order.l0]
      refine Ev_t (by omega) ?_
      have := spec_ins D n ds hn hsm hd i (by omega) _ (ranks D i) [] (fun z h => by rw [ranks_mem] at h; omega) (by rw [ranks_len]; simp; omega) (by rw [List.append_nil]; exact ih (i + 1) (by omega))
      rw [List.append_nil] at this
      rw [up_len]
      exact this
  simp only [spec_l14Order.f]
  exact go n 0 (by omega)
def rng (a n : Nat) : List Int := (List.range' a (n - a)).map (fun (i : Nat) => (i : Int))
theorem rng_cons (a n : Nat) (h : a < n) : rng a n = (a : Int) :: rng (a + 1) n := by
  unfold rng
  rw [show n - a = (n - (a + 1)) + 1 by omega, List.range'_succ]
  rfl
theorem rng_len (a n : Nat) : (rng a n).length = n - a := by simp [rng]
theorem rng_nil (n : Nat) : rng n n = [] := by simp [rng]
theorem rng_last (n : Nat) : rng 0 (n + 1) = rng 0 n ++ [(n : Int)] := by
  unfold rng
  rw [show n + 1 - 0 = n + 1 by omega, List.range'_1_concat, List.map_append, Nat.sub_zero]
  simp
theorem cmp_ev (m : List Fe) (f : Fe) (D : Nat → Int) (hD : ∀ i (h : i < m.length), 0 ≤ D i ∧ D i ≤ 1530 ∧ Ev (fun k => spec_l26Away.f k [m[i]] [f]) (D i) ∧ Ev (fun k => impl_featureDistance.f k m[i].f0 m[i].f1 f.f0 f.f1) (D i)) (x y : Nat) (hx : x < m.length) (hy : y < m.length) :
    Ev (fun k => impl_RankedFeatures_1.f k x y [m] [f]) (D x - D y) := by
  simp only [impl_RankedFeatures_1.f]
  obtain ⟨x0, x1, _, xe⟩ := hD x hx
  obtain ⟨y0, y1, _, ye⟩ := hD y hy
  have e : rd_L9 [m] 0 = m := rfl
  rw [e, rdF_in m x hx, rdF_in m y hy, rdF_one]
  refine Ev_t (by simp) (Ev_t (by omega) (Ev_t (by omega) (Ev_t (by simp) (Ev_b xe (Ev_t (by omega) (Ev_t (by omega) (Ev_b ye (Ev_n ?_))))))))
  exact wr64 (by omega) (by omega)
theorem impl_ins (m : List Fe) (f : Fe) (D : Nat → Int) (hD : ∀ i (h : i < m.length), 0 ≤ D i ∧ D i ≤ 1530 ∧ Ev (fun k => spec_l26Away.f k [m[i]] [f]) (D i) ∧ Ev (fun k => impl_featureDistance.f k m[i].f0 m[i].f1 f.f0 f.f1) (D i)) (hsm : m.length ≤ 1000) (x : Nat) (hx : x < m.length) (n2 : Int) (R : List Int) : ∀ (r : List Nat) (b : List Int), (∀ z ∈ r, z < m.length) → r.length + b.length ≤ 2000 →
    Ev (fun k => slices_insertionSortCmpFunc_int64.l0 k (up (insr D x r) ++ b) 0 n2 ((x + 1 : Nat) : Int) [m] [f]) R → Ev (fun k => slices_insertionSortCmpFunc_int64.l1 k (up r ++ (x : Int) :: b) 0 n2 x (r.length : Int) [m] [f]) R := by
  intro r
  induction r with
  | nil =>
    intro b _ hl h
    refine Ev_suc ?_
    simp only [slices_insertionSortCmpFunc_int64.l1]
    refine Ev_f (by simp) ?_
    rw [wr64s x (by omega)]
    simpa [up, insr] using h
  | cons y r ih =>
    intro b hz hl h
    have hy : y < m.length := hz y (List.mem_cons_self ..)
    simp only [List.length_cons] at hl
    have e1 : wrap64 (((r.length + 1 : Nat) : Int) - 1) = (r.length : Int) := by rw [wr64 (by omega) (by omega)]; omega
    have e2 : rd (up (y :: r) ++ (x : Int) :: b) (r.length : Int) = (y : Int) := by rw [up_cons, List.append_assoc, List.singleton_append]; exact rd_mid _ _ _ _ (up_len r)
    have e2' : rd (up (y :: r) ++ (x : Int) :: b) ((r.length + 1 : Nat) : Int) = (x : Int) := rd_mid _ _ _ _ (by rw [up_len]; rfl)
    have e3 : (up (y :: r) ++ (x : Int) :: b).length = r.length + 2 + b.length := by simp [up_len]; omega
    refine Ev_suc ?_
    simp only [slices_insertionSortCmpFunc_int64.l1, List.length_cons, e1, e2, e2']
    refine Ev_t (by omega) (Ev_t (by omega) (Ev_t (by rw [e3]; omega) (Ev_t (by omega) (Ev_t (by rw [e3]; omega) (Ev_b (cmp_ev m f D hD x y hx hy) ?_)))))
    by_cases c : D x < D y
    · refine Ev_t (by omega) ?_
      have e6 : ((up (y :: r) ++ (x : Int) :: b).set ((r.length + 1 : Nat) : Int).toNat (y : Int)).set (r.length : Int).toNat (x : Int) = up r ++ (x : Int) :: (y : Int) :: b := by
        rw [set_at (up (y :: r)) b (x : Int) (y : Int) (r.length + 1) (by rw [up_len]; rfl), up_cons, List.append_assoc, List.singleton_append, set_at (up r) _ (y : Int) (x : Int) r.length (up_len r)]
      rw [e6]
      refine ih ((y : Int) :: b) (fun z h => hz z (List.mem_cons_of_mem _ h)) (by simp; omega) ?_
      rw [insr, if_pos c, up_cons, List.append_assoc, List.singleton_append] at h
      exact h
    · refine Ev_f (by omega) ?_
      rw [wr64s x (by omega)]
      rw [insr, if_neg c, up_cons, List.append_assoc, List.singleton_append] at h
      exact h
theorem impl_order (m : List Fe) (f : Fe) (D : Nat → Int) (hD : ∀ i (h : i < m.length), 0 ≤ D i ∧ D i ≤ 1530 ∧ Ev (fun k => spec_l26Away.f k [m[i]] [f]) (D i) ∧ Ev (fun k => impl_featureDistance.f k m[i].f0 m[i].f1 f.f0 f.f1) (D i)) (hsm : m.length ≤ 16) :
    Ev (fun k => slices_SortStableFunc_int64_int64.f k (rng 0 m.length) [m] [f]) (up (ranks D m.length)) := by
  have go : ∀ (d i : Nat), i + d = m.length → Ev (fun k => slices_insertionSortCmpFunc_int64.l0 k (up (ranks D i) ++ rng i m.length) 0 (m.length : Int) i [m] [f]) (up (ranks D m.length)) := by
    intro d
    induction d with
    | zero =>
      intro i h
      refine Ev_suc ?_
      simp only [slices_insertionSortCmpFunc_int64.l0]
      obtain rfl : i = m.length := by omega
      exact Ev_f (by omega) (Ev_n (by rw [rng_nil, List.append_nil]))
    | succ d ih =>
      intro i h
      refine Ev_suc ?_
      simp only [slices_insertionSortCmpFunc_int64.l0]
      refine Ev_t (by omega) ?_
      rw [rng_cons i _ (by omega)]
      have := impl_ins m f D hD (by omega) i (by omega) (m.length : Int) _ (ranks D i) (rng (i + 1) m.length) (fun z h => by rw [ranks_mem] at h; omega) (by rw [ranks_len, rng_len]; omega) (ih (i + 1) (by omega))
      rw [ranks_len] at this
      exact this
  have ins : Ev (fun k => slices_insertionSortCmpFunc_int64.f k (rng 0 m.length) 0 (m.length : Int) [m] [f]) (up (ranks D m.length)) := by
    simp only [slices_insertionSortCmpFunc_int64.f]
    rw [show wrap64 ((0 : Int) + 1) = 1 by rw [wr64 (by omega) (by omega)]; rfl]
    by_cases h0 : m.length = 0
    · refine Ev_suc ?_
      simp only [slices_insertionSortCmpFunc_int64.l0]
      rw [h0]
      exact Ev_f (by decide) (Ev_n rfl)
    · have := go (m.length - 1) 1 (by omega)
      rw [show up (ranks D 1) ++ rng 1 m.length = rng 0 m.length by rw [rng_cons 0 _ (by omega)]; rfl] at this
      exact this
  simp only [slices_SortStableFunc_int64_int64.f]
  refine Ev_b ?_ (Ev_n rfl)
  have hl : ((rng 0 m.length).length : Int) = (m.length : Int) := by rw [rng_len]; omega
  rw [hl]
  simp only [slices_stableCmpFunc_int64.f]
  refine Ev_suc ?_
  simp only [slices_stableCmpFunc_int64.l0]
  refine Ev_f (by omega) (Ev_b ins (Ev_suc ?_))
  simp only [slices_stableCmpFunc_int64.l1]
  exact Ev_f (by omega) (Ev_n rfl)
theorem ranked_ev (m : List Fe) (hl : (m.length : Int) ≤ 1048576) (f : Fe) (hf : (f.f1.length : Int) ≤ 1048576) : ∃ (r0 : List Int) (r1 : Int), (r0.length : Int) ≤ 1048576 ∧ Ev (fun k => spec_RankedFeatures.f k m f.f0 f.f1) (r0, r1) ∧ Ev (fun k => impl_RankedFeatures.f k m f.f0 f.f1) (r0, r1) ∧
    (r1 = 0 → m.length ≤ 16 ∧ (∀ y ∈ m, vF y) ∧ vF f ∧ ∃ D : Nat → Int, (∀ i (h : i < m.length), 0 ≤ D i ∧ D i ≤ 1530 ∧ Ev (fun k => spec_l26Away.f k [m[i]] [f]) (D i) ∧ Ev (fun k => impl_featureDistance.f k m[i].f0 m[i].f1 f.f0 f.f1) (D i)) ∧ r0 = up (ranks D m.length)) ∧ (∃ b, Ev (fun k => spec_l26Ok.f k m) b ∧ Ev (fun k => impl_ValidFeatures.f k m) b ∧ ∃ c, Ev (fun k => spec_l26One.f k [f]) c ∧ Ev (fun k => impl_ValidFeature.f k f.f0 f.f1) c ∧ r1 = if b = true ∧ c = true then 0 else 1) := by
  obtain ⟨b, hb, hbk⟩ := validS_ev m hl
  obtain ⟨c, hc, hck⟩ := valid_ev f.f0 f.f1
  have b1 : Ev (fun k => spec_l26Ok.f k m) b := Ev_all (fun k h => (hbk k h).1)
  have b2 : Ev (fun k => impl_ValidFeatures.f k m) b := Ev_all (fun k h => (hbk k h).2)
  have c1 : Ev (fun k => spec_l26One.f k [f]) c := Ev_all (fun k h => (hck k h).1)
  have c2 : Ev (fun k => impl_ValidFeature.f k f.f0 f.f1) c := Ev_all (fun k h => (hck k h).2)
  have bad : (b = false ∨ (b = true ∧ c = false)) → Ev (fun k => spec_RankedFeatures.f k m f.f0 f.f1) ([], 1) ∧ Ev (fun k => impl_RankedFeatures.f k m f.f0 f.f1) ([], 1) := by
    intro h
    simp only [spec_RankedFeatures.f, impl_RankedFeatures.f]
    rcases h with rfl | ⟨rfl, rfl⟩
    · exact ⟨Ev_b b1 (Ev_f (by decide) (Ev_suc (by simp only [spec_RankedFeatures.j0]; exact Ev_t (by simp) (Ev_n rfl)))), Ev_b b2 (Ev_f (by decide) (Ev_suc (by simp only [impl_RankedFeatures.j0]; exact Ev_t (by simp) (Ev_n rfl))))⟩
    · exact ⟨Ev_b b1 (Ev_t rfl (Ev_b c1 (Ev_suc (by simp only [spec_RankedFeatures.j0]; exact Ev_t (by simp) (Ev_n rfl))))), Ev_b b2 (Ev_t rfl (Ev_b c2 (Ev_suc (by simp only [impl_RankedFeatures.j0]; exact Ev_t (by simp) (Ev_n rfl)))))⟩
  cases b with
  | false => exact ⟨[], 1, by simp, (bad (.inl rfl)).1, (bad (.inl rfl)).2, fun h => absurd h (by decide), false, b1, b2, c, c1, c2, by simp⟩
  | true =>
    cases c with
    | false => exact ⟨[], 1, by simp, (bad (.inr ⟨rfl, rfl⟩)).1, (bad (.inr ⟨rfl, rfl⟩)).2, fun h => absurd h (by decide), true, b1, b2, false, c1, c2, by simp⟩
    | true =>
      obtain ⟨h16, hv⟩ := hb rfl
      have hvf : vF f := hc rfl
      obtain ⟨D, hD⟩ := dist_fun m f hv hvf
      refine ⟨up (ranks D m.length), 0, by rw [up_len, ranks_len]; exact hl, ?_, ?_, fun _ => ⟨h16, hv, hvf, D, hD, rfl⟩, true, b1, b2, true, c1, c2, by simp⟩
      · simp only [spec_RankedFeatures.f]
        refine Ev_b b1 (Ev_t rfl (Ev_b c1 (Ev_suc ?_)))
        simp only [spec_RankedFeatures.j0]
        refine Ev_f (by decide) ?_
        have go : ∀ (d i : Nat) (ds : List Int), i + d = m.length → ds.length = i → (∀ j, j < i → rd ds (j : Int) = - D j) → Ev (fun k => spec_RankedFeatures.l0 k m ds i f.f0 f.f1) (up (ranks D m.length), 0) := by
          intro d
          induction d with
          | zero =>
            intro i ds h h1 h2
            refine Ev_suc ?_
            simp only [spec_RankedFeatures.l0]
            obtain rfl : i = m.length := by omega
            exact Ev_f (by omega) (Ev_b (spec_order D m.length ds h1 (by omega) h2) (Ev_n rfl))
          | succ d ih =>
            intro i ds h h1 h2
            obtain ⟨v0, v1, ve, _⟩ := hD i (by omega)
            refine Ev_suc ?_
            simp only [spec_RankedFeatures.l0]
            rw [rdF_in m i (by omega)]
            refine Ev_t (by omega) (Ev_t (by omega) (Ev_b ve (Ev_t (by omega) ?_)))
            rw [wr64s i (by omega), wr64 (x := -D i) (by omega) (by omega)]
            refine ih (i + 1) _ (by omega) (by simp [h1]) (fun j hj => ?_)
            by_cases hji : j = i
            · subst hji; exact rd_mid ds [] _ _ h1
            · have h3 := h2 j (by omega)
              unfold rd at h3 ⊢
              rw [← h3, List.getD_eq_getElem?_getD, List.getD_eq_getElem?_getD, List.getElem?_append_left (by simp; omega)]
        exact go m.length 0 [] (by omega) rfl (fun j hj => absurd hj (by omega))
      · simp only [impl_RankedFeatures.f]
        refine Ev_b b2 (Ev_t rfl (Ev_b c2 (Ev_suc ?_)))
        simp only [impl_RankedFeatures.j0]
        refine Ev_f (by decide) ?_
        have go : ∀ (d i : Nat), i + d = m.length → Ev (fun k => impl_RankedFeatures.l0 k (rng 0 i) (m.length : Int) i m f.f0 f.f1) (up (ranks D m.length), 0) := by
          intro d
          induction d with
          | zero =>
            intro i h
            refine Ev_suc ?_
            simp only [impl_RankedFeatures.l0]
            obtain rfl : i = m.length := by omega
            exact Ev_f (by omega) (Ev_b (impl_order m f D hD h16) (Ev_n rfl))
          | succ d ih =>
            intro i h
            refine Ev_suc ?_
            simp only [impl_RankedFeatures.l0]
            refine Ev_t (by omega) (Ev_t (by rw [rng_len]; omega) ?_)
            rw [wr64s i (by omega), ← rng_last]
            exact ih (i + 1) (by omega)
        exact go m.length 0 (by omega)
end Go.Proofs.Yteafahnopgmgoaa.Q
namespace Go.Proofs.Yteafahnopgmgoaa.Q
open Go.RowKit Go.Proofs.YteafahnopgmgoaaW.PrintWords Go.Proofs.YteafahnopgmgoaaW.PrintLast Go.Proofs.YteafahnopgmgoaaW.PrintMore
set_option linter.unusedVariables false
theorem rdF_mid (a b : List Fe) (x : Fe) (i : Nat) (h : a.length = i) : rd_T28 (a ++ x :: b) (i : Int) = x := by unfold rd_T28; exact getD_at a b _ x i h
theorem mkf_ev (l : List Fe) (hl : (l.length : Int) ≤ 1048576) (hs : ∀ y ∈ l, (y.f1.length : Int) ≤ 1048576) : ∃ r l', 0 ≤ r ∧ r ≤ 2000000000000 ∧ Ev (fun k => laws_markFeatureS.f k l 1) (r, l') := by
  have go : ∀ (q p : List Fe) (i : Nat) (c : Int), (∀ y ∈ q, (y.f1.length : Int) ≤ 1048576) → p.length = i → 0 ≤ c → c ≤ 1 + 1048577 * (i : Int) → (i : Int) + q.length ≤ 1048576 → ∃ r l', 0 ≤ r ∧ r ≤ 2000000000000 ∧ Ev (fun k => laws_markFeatureS.l0 k (p ++ q) c i) (r, l') := by
    intro q
    induction q with
    | nil =>
      intro p i c q0 q1 q2 q3 q4
      refine ⟨c, p ++ [], q2, by omega, Ev_suc ?_⟩
      simp only [laws_markFeatureS.l0]
      exact Ev_f (by simp; omega) (Ev_n rfl)
    | cons x q ih =>
      intro p i c q0 q1 q2 q3 q4
      simp only [List.length_cons] at q4
      have hx := q0 x (List.mem_cons_self ..)
      have e0 : wrap64 (c + 1) = c + 1 := (wr64 (by omega) (by omega)).trans (by omega)
      obtain ⟨t0, ht0⟩ := markText_ev c (by omega) (by omega)
      obtain ⟨st, _, hst, _⟩ := mk_Int64 x.f1 (c + 1) (by omega) (by omega) (by omega)
      obtain ⟨r, l', hr, hr2, he⟩ := ih (p ++ [(⟨t0, st⟩ : Fe)]) (i + 1) (c + 1 + 1 * x.f1.length) (fun y hy => q0 y (List.mem_cons_of_mem _ hy)) (by simp; omega) (by omega) (by omega) (by omega)
      refine ⟨r, l', hr, hr2, Ev_suc ?_⟩
      simp only [laws_markFeatureS.l0, e0, set_at p q _ _ i q1, rdF_mid p q x i q1]
      refine Ev_t (by simp; omega) (Ev_b ht0 (Ev_b hst (Ev_t (by omega) ?_)))
      rw [wr64s i (by omega)]
      rw [List.append_assoc, List.singleton_append] at he
      exact he
  simp only [laws_markFeatureS.f]
  exact go l [] 0 1 hs rfl (by omega) (by omega) (by simpa using hl)
end Go.Proofs.Yteafahnopgmgoaa.Q
namespace Go.Proofs.Yteafahnopgmgoaa.Q
open Go.RowKit Go.Proofs.YteafahnopgmgoaaW.PrintWords Go.Proofs.YteafahnopgmgoaaW.PrintLast Go.Proofs.YteafahnopgmgoaaW.PrintMore
set_option linter.unusedVariables false
theorem insr_last1 (D : Nat → Int) (x b : Nat) (h : D x < D b) : ∀ r : List Nat, (∀ y ∈ r, D b ≤ D y) → insr D x (r ++ [b]) = (r ++ [b]) ++ [x]
  | [], _ => by simp [insr, h]
  | y :: r, hr => by
    have := hr y (List.mem_cons_self ..)
    rw [List.cons_append, insr, if_pos (by omega), insr_last1 D x b h r (fun z hz => hr z (List.mem_cons_of_mem _ hz))]
    rfl
theorem insr_last2 (D : Nat → Int) (x b : Nat) (h : ¬ D x < D b) : ∀ r : List Nat, ∃ s, insr D x (r ++ [b]) = s ++ [b]
  | [] => ⟨[x], by simp [insr, h]⟩
  | y :: r => by
    rw [List.cons_append, insr]
    split
    · obtain ⟨s, hs⟩ := insr_last2 D x b h r
      exact ⟨y :: s, by rw [hs]; rfl⟩
    · exact ⟨x :: y :: r, by simp⟩
end Go.Proofs.Yteafahnopgmgoaa.Q
namespace Go.Proofs.Yteafahnopgmgoaa.Q
open Go.RowKit Go.Proofs.YteafahnopgmgoaaW.PrintWords Go.Proofs.YteafahnopgmgoaaW.PrintLast Go.Proofs.YteafahnopgmgoaaW.PrintMore
set_option linter.unusedVariables false
theorem Ev_uniq {α : Type} {g : Nat → Option α} {a b : α} (h1 : Ev g a) (h2 : Ev g b) : a = b := by
  obtain ⟨n1, h1⟩ := h1
  obtain ⟨n2, h2⟩ := h2
  have e1 := h1 (n1 + n2) (by omega)
  have e2 := h2 (n1 + n2) (by omega)
  rw [e1] at e2
  exact Option.some.inj e2
theorem max_comm (a b : Int) : spec_l00Max.f a b = spec_l00Max.f b a := by
  unfold spec_l00Max.f
  split <;> split <;> first | rfl | (congr 1; omega) | omega
theorem away_sym (x y : Fe) (hx : vF x) (hy : vF y) : ∀ k c i, spec_l26Away.l0 k [x] [y] c i = spec_l26Away.l0 k [y] [x] c i
  | 0, _, _ => rfl
  | k + 1, c, i => by
    simp only [spec_l26Away.l0, rdF_one, hx.1, hy.1]
    rw [max_comm]
    have : (fun t => spec_l26Away.l0 k [x] [y] (wrap64 (c + t)) (wrap64 (i + 1))) = (fun t => spec_l26Away.l0 k [y] [x] (wrap64 (c + t)) (wrap64 (i + 1))) := by funext t; exact away_sym x y hx hy k _ _
    rw [this]
    simp
theorem away_symE (x y : Fe) (hx : vF x) (hy : vF y) {v : Int} (h : Ev (fun k => spec_l26Away.f k [x] [y]) v) : Ev (fun k => spec_l26Away.f k [y] [x]) v := by
  have e : (fun k => spec_l26Away.f k [y] [x]) = (fun k => spec_l26Away.f k [x] [y]) := by
    funext k
    simp only [spec_l26Away.f]
    exact away_sym y x hy hx k 0 0
  rw [e]
  exact h
theorem ok_each (m : List Fe) (hl : (m.length : Int) ≤ 1048576) (h : Ev (fun k => spec_l26Ok.f k m) true) : ∀ i (hi : i < m.length), Ev (fun k => spec_l26One.f k [m[i]]) true := by
  have go : ∀ (d i : Nat), i + d = m.length → ∃ b, Ev (fun k => spec_l26Ok.l0 k m i) b ∧ (b = true → ∀ j (hj : j < m.length), i ≤ j → Ev (fun k => spec_l26One.f k [m[j]]) true) := by
    intro d
    induction d with
    | zero =>
      intro i h
      refine ⟨decide ((m.length : Int) ≤ 16), Ev_suc ?_, fun _ j hj hij => absurd hj (by omega)⟩
      simp only [spec_l26Ok.l0]
      exact Ev_f (by omega) (Ev_n rfl)
    | succ d ih =>
      intro i h
      have hi : i < m.length := by omega
      obtain ⟨c, _, hck⟩ := valid_ev m[i].f0 m[i].f1
      have c1 : Ev (fun k => spec_l26One.f k [m[i]]) c := Ev_all (fun k h => (hck k h).1)
      cases c with
      | false =>
        refine ⟨false, Ev_suc ?_, fun h => by cases h⟩
        simp only [spec_l26Ok.l0]
        rw [rdF_in m i hi]
        exact Ev_t (by omega) (Ev_t (by omega) (Ev_b c1 (Ev_f (by decide) (Ev_n rfl))))
      | true =>
        obtain ⟨b, hb, hb2⟩ := ih (i + 1) (by omega)
        have fin : b = true → ∀ j (hj : j < m.length), i ≤ j → Ev (fun k => spec_l26One.f k [m[j]]) true := fun e j hj hij => by
          rcases Nat.lt_or_eq_of_le hij with g | g
          · exact hb2 e j hj (by omega)
          · subst g; exact c1
        by_cases h0 : i = 0
        · refine ⟨b, Ev_suc ?_, fin⟩
          simp only [spec_l26Ok.l0]
          rw [rdF_in m i hi, wr64s i (by omega)]
          exact Ev_t (by omega) (Ev_t (by omega) (Ev_b c1 (Ev_t rfl (Ev_f (by omega) hb))))
        · have e : wrap64 ((i : Int) - 1) = ((i - 1 : Nat) : Int) := by rw [wr64 (by omega) (by omega)]; omega
          by_cases hc : Op.bytesLess ((m[i - 1]'(by omega)).f0.toList) (m[i].f0.toList) = true
          · refine ⟨b, Ev_suc ?_, fin⟩
            simp only [spec_l26Ok.l0]
            rw [e, rdF_in m i hi, rdF_in m (i - 1) (by omega), wr64s i (by omega)]
            exact Ev_t (by omega) (Ev_t (by omega) (Ev_b c1 (Ev_t rfl (Ev_t (by omega) (Ev_t (by omega) (Ev_t (by omega) (Ev_t hc hb)))))))
          · refine ⟨false, Ev_suc ?_, fun h => by cases h⟩
            simp only [spec_l26Ok.l0]
            rw [e, rdF_in m i hi, rdF_in m (i - 1) (by omega), wr64s i (by omega)]
            exact Ev_t (by omega) (Ev_t (by omega) (Ev_b c1 (Ev_t rfl (Ev_t (by omega) (Ev_t (by omega) (Ev_t (by omega) (Ev_f hc (Ev_n rfl))))))))
  obtain ⟨b, hb, hb2⟩ := go m.length 0 (by omega)
  have hb' : Ev (fun k => spec_l26Ok.f k m) b := by simp only [spec_l26Ok.f]; exact hb
  have := Ev_uniq h hb'
  subst this
  exact fun i hi => hb2 rfl i hi (by omega)
theorem insr_srt (D : Nat → Int) (x : Nat) : ∀ r : List Nat, r.Pairwise (fun y z => D z ≤ D y) → (insr D x r).Pairwise (fun y z => D z ≤ D y)
  | [], _ => by simp [insr]
  | y :: r, h => by
    rw [List.pairwise_cons] at h
    rw [insr]
    split
    · rename_i c
      rw [List.pairwise_cons]
      refine ⟨fun z hz => ?_, insr_srt D x r h.2⟩
      rw [insr_mem] at hz
      rcases hz with rfl | hz
      · omega
      · exact h.1 z hz
    · rename_i c
      rw [List.pairwise_cons, List.pairwise_cons]
      refine ⟨fun z hz => ?_, h⟩
      rcases List.mem_cons.1 hz with rfl | hz
      · omega
      · have := h.1 z hz; omega
theorem ranks_srt (D : Nat → Int) : ∀ n, (ranks D n).Pairwise (fun y z => D z ≤ D y)
  | 0 => by simp [ranks]
  | n + 1 => by rw [ranks]; exact insr_srt D n _ (ranks_srt D n)
theorem insr_head (D : Nat → Int) (x : Nat) : ∀ l : List Nat, (∀ y ∈ l, ¬ D x < D y) → insr D x l = x :: l
  | [], _ => rfl
  | y :: l, h => by rw [insr, if_neg (h y (List.mem_cons_self ..))]
theorem insr_filter (D : Nat → Int) (p : Nat → Bool) (x : Nat) : ∀ r : List Nat, r.Pairwise (fun y z => D z ≤ D y) → (insr D x r).filter p = if p x = true then insr D x (r.filter p) else r.filter p
  | [], _ => by simp [insr, List.filter_cons]
  | y :: r, h => by
    rw [List.pairwise_cons] at h
    have ih := insr_filter D p x r h.2
    by_cases c : D x < D y
    · rw [insr, if_pos c, List.filter_cons, List.filter_cons, ih]
      by_cases py : p y = true
      · rw [if_pos py, if_pos py]
        by_cases px : p x = true
        · rw [if_pos px, if_pos px, insr, if_pos c]
        · rw [if_neg px, if_neg px]
      · rw [if_neg py, if_neg py]
    · rw [insr, if_neg c, List.filter_cons (x := x)]
      by_cases px : p x = true
      · rw [if_pos px, if_pos px, insr_head]
        intro z hz
        have hz' := List.mem_filter.1 hz
        rcases List.mem_cons.1 hz'.1 with rfl | hz2
        · exact c
        · have := h.1 z hz2; omega
      · rw [if_neg px, if_neg px]
def sb (D : Nat → Int) (p : Nat → Bool) : Nat → Int
  | 0 => -1
  | j + 1 => if p j = true then (if sb D p j < 0 then (j : Int) else if D j < D (sb D p j).toNat then (j : Int) else sb D p j) else sb D p j
theorem sb_spec (D : Nat → Int) (p : Nat → Bool) : ∀ j, ((ranks D j).filter p = [] ∧ sb D p j = -1) ∨ ∃ (s : List Nat) (b : Nat), (ranks D j).filter p = s ++ [b] ∧ sb D p j = (b : Int) ∧ ∀ y ∈ s, D b ≤ D y
  | 0 => .inl ⟨by simp [ranks], rfl⟩
  | j + 1 => by
    have hf : (ranks D (j + 1)).filter p = if p j = true then insr D j ((ranks D j).filter p) else (ranks D j).filter p := by rw [ranks]; exact insr_filter D p j _ (ranks_srt D j)
    rw [hf]
    by_cases pj : p j = true
    · rw [if_pos pj]
      rcases sb_spec D p j with ⟨h1, h2⟩ | ⟨s, b, h1, h2, h3⟩
      · refine .inr ⟨[], j, by rw [h1]; rfl, ?_, by simp⟩
        rw [sb, if_pos pj, if_pos (by omega)]
      · rw [h1]
        have hn : ¬ sb D p j < 0 := by omega
        have ht : (sb D p j).toNat = b := by omega
        by_cases c : D j < D b
        · refine .inr ⟨s ++ [b], j, insr_last1 D j b c s h3, ?_, fun y hy => ?_⟩
          · rw [sb, if_pos pj, if_neg hn, ht, if_pos c]
          · rcases List.mem_append.1 hy with hy | hy
            · have := h3 y hy; omega
            · rw [List.mem_singleton.1 hy]; omega
        · obtain ⟨s2, hs2⟩ := insr_last2 D j b c s
          refine .inr ⟨s2, b, hs2, ?_, fun y hy => ?_⟩
          · rw [sb, if_pos pj, if_neg hn, ht, if_neg c]; exact h2
          · have hy2 : y ∈ insr D j (s ++ [b]) := by rw [hs2]; exact List.mem_append_left _ hy
            rw [insr_mem] at hy2
            rcases hy2 with rfl | hy2
            · omega
            · rcases List.mem_append.1 hy2 with hy2 | hy2
              · exact h3 y hy2
              · rw [List.mem_singleton.1 hy2]; exact Int.le_refl _
    · rw [if_neg pj]
      rcases sb_spec D p j with ⟨h1, h2⟩ | ⟨s, b, h1, h2, h3⟩
      · exact .inl ⟨h1, by rw [sb, if_neg pj]; exact h2⟩
      · exact .inr ⟨s, b, h1, by rw [sb, if_neg pj]; exact h2, h3⟩
theorem php : ∀ (n : Nat) (O : List Nat), (∀ z, z < n → z ∈ O) → n ≤ O.length
  | 0, _, _ => by omega
  | n + 1, O, h => by
    have hm := h n (by omega)
    have := php n (O.erase n) (fun z hz => (List.mem_erase_of_ne (by omega)).2 (h z (by omega)))
    rw [List.length_erase_of_mem hm] at this
    have : 0 < O.length := List.length_pos_of_mem hm
    omega
def unu (O : List Int) (j : Nat) : Bool := !decide ((j : Int) ∈ O)
theorem has_ev (O : List Int) (a : Int) (hO : (O.length : Int) ≤ 1048576) : Ev (fun k => spec_l00Has.f k O a) (decide (a ∈ O)) ∧ Ev (fun k => slices_Contains_int64_int64.f k O a) (decide (a ∈ O)) := by
  have go : ∀ (d i : Nat), i + d = O.length → Ev (fun k => spec_l00Has.l0 k O a i) (decide (a ∈ O.drop i)) ∧ ∃ r, Ev (fun k => slices_Index_int64_int64.l0 k O a (O.length : Int) i) r ∧ decide (r ≥ 0) = decide (a ∈ O.drop i) := by
    intro d
    induction d with
    | zero =>
      intro i h
      have e : O.drop i = [] := List.drop_eq_nil_of_le (by omega)
      rw [e]
      refine ⟨Ev_suc ?_, -1, Ev_suc ?_, by simp⟩
      · simp only [spec_l00Has.l0]; exact Ev_f (by omega) (Ev_n (by simp))
      · simp only [slices_Index_int64_int64.l0]; exact Ev_f (by omega) (Ev_n rfl)
    | succ d ih =>
      intro i h
      have hi : i < O.length := by omega
      obtain ⟨g1, r, g2, g3⟩ := ih (i + 1) (by omega)
      rw [List.drop_eq_getElem_cons hi]
      have hr : rd O (i : Int) = O[i] := rd_nat O i hi
      by_cases c : O[i] = a
      · refine ⟨Ev_suc ?_, i, Ev_suc ?_, by simp [c]⟩
        · simp only [spec_l00Has.l0]
          rw [hr]
          exact Ev_t (by omega) (Ev_t (by omega) (Ev_t c (Ev_n (by simp [c]))))
        · simp only [slices_Index_int64_int64.l0]
          rw [hr]
          exact Ev_t (by omega) (Ev_t (by omega) (Ev_t (by omega) (Ev_t c.symm (Ev_n rfl))))
      · have e : (a ∈ O[i] :: O.drop (i + 1)) ↔ (a ∈ O.drop (i + 1)) := by
          rw [List.mem_cons]
          exact ⟨fun h => h.resolve_left (fun h2 => c h2.symm), .inr⟩
        rw [decide_eq_decide.2 e]
        refine ⟨Ev_suc ?_, r, Ev_suc ?_, g3⟩
        · simp only [spec_l00Has.l0]
          rw [hr, wr64s i (by omega)]
          exact Ev_t (by omega) (Ev_t (by omega) (Ev_f c g1))
        · simp only [slices_Index_int64_int64.l0]
          rw [hr, wr64s i (by omega)]
          exact Ev_t (by omega) (Ev_t (by omega) (Ev_t (by omega) (Ev_f (fun h => c h.symm) g2)))
  obtain ⟨g1, r, g2, g3⟩ := go O.length 0 (by omega)
  rw [List.drop_zero] at g1 g3
  refine ⟨by simp only [spec_l00Has.f]; exact g1, ?_⟩
  simp only [slices_Contains_int64_int64.f, slices_Index_int64_int64.f]
  exact Ev_b g2 (Ev_n g3)
theorem indexf_ev (O : List Int) (hO : (O.length : Int) ≤ 1048576) (L : List Int) (hL : (L.length : Int) ≤ 1048576) (x : Int) (B : List Int) (hx : x ∉ O) : ∀ (A C : List Int), L = C ++ (A ++ x :: B) → (∀ y ∈ A, y ∈ O) → Ev (fun k => slices_IndexFunc_int64_int64_c1.l0 k L (L.length : Int) (C.length : Int) [O]) ((C.length + A.length : Nat) : Int)
  | [], C, hL2, _ => by
    have hi : C.length < L.length := by rw [hL2]; simp
    have hr : rd L (C.length : Int) = x := by rw [hL2]; exact rd_mid C B x _ rfl
    refine Ev_suc ?_
    simp only [slices_IndexFunc_int64_int64_c1.l0]
    rw [hr]
    have hc := (has_ev O x hO).2
    rw [decide_eq_false hx] at hc
    refine Ev_t (by omega) (Ev_t (by omega) (Ev_t (by omega) (Ev_b (a := true) ?_ (Ev_t rfl (Ev_n (by simp))))))
    simp only [impl_GreedyMatches_1.f]
    exact Ev_t (by simp) (Ev_b hc (Ev_n rfl))
  | y :: A, C, hL2, hA => by
    have hi : C.length < L.length := by rw [hL2]; simp
    have hr : rd L (C.length : Int) = y := by rw [hL2]; exact rd_mid C (A ++ x :: B) y _ rfl
    have hy := hA y (List.mem_cons_self ..)
    have ih := indexf_ev O hO L hL x B hx A (C ++ [y]) (by rw [hL2]; simp) (fun z hz => hA z (List.mem_cons_of_mem _ hz))
    refine Ev_suc ?_
    simp only [slices_IndexFunc_int64_int64_c1.l0]
    rw [hr]
    have hc := (has_ev O y hO).2
    rw [decide_eq_true hy] at hc
    refine Ev_t (by omega) (Ev_t (by omega) (Ev_t (by omega) (Ev_b (a := false) ?_ (Ev_f (by decide) ?_))))
    · simp only [impl_GreedyMatches_1.f]
      exact Ev_t (by simp) (Ev_b hc (Ev_n rfl))
    · rw [wr64s C.length (by omega)]
      have e1 : (((C ++ [y]).length : Nat) : Int) = ((C.length + 1 : Nat) : Int) := by simp
      rw [e1] at ih
      have e2 : (C ++ [y]).length + A.length = C.length + (y :: A).length := by simp; omega
      rw [e2] at ih
      exact ih
theorem greedy_ev (t m : List Fe) (ht : (t.length : Int) ≤ 1048576) (hm : (m.length : Int) ≤ 1048576) (htf : ∀ y ∈ t, (y.f1.length : Int) ≤ 1048576) : ∃ (r0 : List Int) (r1 : Int), (r0.length : Int) ≤ 1048576 ∧ Ev (fun k => spec_GreedyMatches.f k t m) (r0, r1) ∧ Ev (fun k => impl_GreedyMatches.f k t m) (r0, r1) := by
  obtain ⟨b, hb, hbk⟩ := validS_ev t ht
  obtain ⟨c, hc, hck⟩ := validS_ev m hm
  have b1 : Ev (fun k => spec_l26Ok.f k t) b := Ev_all (fun k h => (hbk k h).1)
  have b2 : Ev (fun k => impl_ValidFeatures.f k t) b := Ev_all (fun k h => (hbk k h).2)
  have c1 : Ev (fun k => spec_l26Ok.f k m) c := Ev_all (fun k h => (hck k h).1)
  have c2 : Ev (fun k => impl_ValidFeatures.f k m) c := Ev_all (fun k h => (hck k h).2)
  have wi : impl_within.f 1 1 20000 = some true := by unfold impl_within.f; simp
  have sbad : Ev (fun k => spec_GreedyMatches.j0 k t m true) (([] : List Int), (1 : Int)) := by
    refine Ev_suc ?_; simp only [spec_GreedyMatches.j0]; exact Ev_t True.intro (Ev_n rfl)
  have ibad : Ev (fun k => impl_matchesCode.j0 k t m 1 true) (1 : Int) := by
    refine Ev_suc ?_; simp only [impl_matchesCode.j0]; exact Ev_t True.intro (Ev_n rfl)
  simp only [spec_GreedyMatches.f, impl_GreedyMatches.f]
  cases b with
  | false =>
    refine ⟨[], 1, by simp, Ev_b b1 (Ev_f (by decide) sbad), Ev_b (a := 1) ?_ (Ev_f (by decide) (Ev_n rfl))⟩
    simp only [impl_matchesCode.f]; exact Ev_b b2 (Ev_f (by decide) ibad)
  | true =>
    cases c with
    | false =>
      refine ⟨[], 1, by simp, Ev_b b1 (Ev_t rfl (Ev_b c1 sbad)), Ev_b (a := 1) ?_ (Ev_f (by decide) (Ev_n rfl))⟩
      simp only [impl_matchesCode.f]; exact Ev_b b2 (Ev_t rfl (Ev_b c2 ibad))
    | true =>
      obtain ⟨t16, tv⟩ := hb rfl
      obtain ⟨m16, mv⟩ := hc rfl
      have tone := ok_each t ht b1
      by_cases cl : (t.length : Int) > (m.length : Int)
      · refine ⟨[], 6, by simp, Ev_b b1 (Ev_t rfl (Ev_b c1 (Ev_suc ?_))), Ev_b (a := 6) ?_ (Ev_f (by decide) (Ev_n rfl))⟩
        · simp only [spec_GreedyMatches.j0]; exact Ev_f (by decide) (Ev_t cl (Ev_n rfl))
        · simp only [impl_matchesCode.f]
          refine Ev_b b2 (Ev_t rfl (Ev_b c2 (Ev_suc ?_)))
          simp only [impl_matchesCode.j0]
          exact Ev_f (by decide) (Ev_b (Ev_c wi) (Ev_t rfl (Ev_t cl (Ev_n rfl))))
      have go : ∀ (d i : Nat) (O : List Nat), i + d = t.length → O.length = i → ∃ r0 : List Int, (r0.length : Int) ≤ 1048576 ∧ Ev (fun k => spec_GreedyMatches.l0 k t m (O.map (fun (j : Nat) => (j : Int))) i) (r0, 0) ∧ Ev (fun k => impl_GreedyMatches.l0 k m t (t.length : Int) i (O.map (fun (j : Nat) => (j : Int)))) (r0, 0) := by
        intro d
        induction d with
        | zero =>
          intro i O h hO
          refine ⟨O.map (fun (j : Nat) => (j : Int)), by simp; omega, Ev_suc ?_, Ev_suc ?_⟩
          · simp only [spec_GreedyMatches.l0]; exact Ev_f (by omega) (Ev_n rfl)
          · simp only [impl_GreedyMatches.l0]; exact Ev_f (by omega) (Ev_n rfl)
        | succ d ih =>
          intro i O h hO
          have hi : i < t.length := by omega
          obtain ⟨P, hP⟩ : ∃ P : List Int, P = O.map (fun (j : Nat) => (j : Int)) := ⟨_, rfl⟩
          have hPl : P.length = i := by rw [hP]; simp [hO]
          rw [← hP]
          obtain ⟨q0, q1, _, _, qi, qok, b', qb, _, c', qc, _, qr⟩ := ranked_ev m hm t[i] (htf _ (List.getElem_mem _))
          have eb : b' = true := Ev_uniq qb c1
          have ec : c' = true := Ev_uniq qc (tone i hi)
          rw [eb, ec, if_pos ⟨rfl, rfl⟩] at qr
          subst qr
          obtain ⟨_, _, fv, D, hD, rfl⟩ := qok rfl
          have hne : (ranks D m.length).filter (unu P) ≠ [] := by
            intro he
            have := php m.length O (fun z hz => by
              have h1 : ¬ unu P z = true := List.filter_eq_nil_iff.1 he z ((ranks_mem D _ z).2 hz)
              have h2 : (z : Int) ∈ P := by
                unfold unu at h1
                simpa using h1
              rw [hP] at h2
              obtain ⟨w, hw, e⟩ := List.mem_map.1 h2
              have : w = z := by omega
              rw [← this]; exact hw)
            omega
          rcases sb_spec D (unu P) m.length with ⟨h1, _⟩ | ⟨s, b, h1, h2, h3⟩
          · exact absurd h1 hne
          have hbm : b ∈ (ranks D m.length).filter (unu P) := by rw [h1]; simp
          have hbm2 := List.mem_filter.1 hbm
          have hbn : b < m.length := (ranks_mem D _ b).1 hbm2.1
          have hbP : (b : Int) ∉ P := by have := hbm2.2; unfold unu at this; simpa using this
          obtain ⟨r0, hr0, e1, e2⟩ := ih (i + 1) (O ++ [b]) (by omega) (by simp; omega)
          rw [List.map_append, ← hP] at e1 e2
          refine ⟨r0, hr0, Ev_suc ?_, Ev_suc ?_⟩
          · simp only [spec_GreedyMatches.l0]
            refine Ev_t (by omega) ?_
            have lp : ∀ (d j : Nat), j + d = m.length → Ev (fun k => spec_GreedyMatches.l1 k t m P i (sb D (unu P) j) j) (r0, 0) := by
              intro d
              induction d with
              | zero =>
                intro j hj
                refine Ev_suc ?_
                simp only [spec_GreedyMatches.l1]
                obtain rfl : j = m.length := by omega
                rw [h2, wr64s i (by omega)]
                exact Ev_f (by omega) (Ev_t (by omega) e1)
              | succ d ih2 =>
                intro j hj
                have hjm : j < m.length := by omega
                have nx := ih2 (j + 1) (by omega)
                have hh := (has_ev P (j : Int) (by omega)).1
                refine Ev_suc ?_
                simp only [spec_GreedyMatches.l1]
                rw [wr64s j (by omega)]
                by_cases cu : (j : Int) ∈ P
                · rw [decide_eq_true cu] at hh
                  rw [sb, if_neg (by unfold unu; simp [cu])] at nx
                  exact Ev_t (by omega) (Ev_b hh (Ev_t rfl nx))
                · rw [decide_eq_false cu] at hh
                  rw [sb, if_pos (by unfold unu; simp [cu])] at nx
                  by_cases cn : sb D (unu P) j < 0
                  · rw [if_pos cn] at nx
                    exact Ev_t (by omega) (Ev_b hh (Ev_f (by decide) (Ev_t cn nx)))
                  · rw [if_neg cn] at nx
                    obtain ⟨w, hw⟩ := Int.eq_ofNat_of_zero_le (show 0 ≤ sb D (unu P) j by omega)
                    have hwm : w < m.length := by
                      rcases sb_spec D (unu P) j with ⟨_, g2⟩ | ⟨s', b', g1, g2, _⟩
                      · omega
                      · have : b' ∈ (ranks D j).filter (unu P) := by rw [g1]; simp
                        have := (ranks_mem D _ b').1 (List.mem_filter.1 this).1
                        omega
                    rw [hw] at nx cn ⊢
                    rw [Int.toNat_natCast] at nx
                    rw [rdF_in t i hi, rdF_in m j hjm, rdF_in m w hwm]
                    have d1 := away_symE _ _ (mv _ (List.getElem_mem hjm)) (tv _ (List.getElem_mem hi)) (hD j hjm).2.2.1
                    have d2 := away_symE _ _ (mv _ (List.getElem_mem hwm)) (tv _ (List.getElem_mem hi)) (hD w hwm).2.2.1
                    refine Ev_t (by omega) (Ev_b hh (Ev_f (by decide) (Ev_f (by omega) (Ev_t (by omega) (Ev_t (by omega) (Ev_t (by omega) (Ev_b d1 (Ev_t (by omega) (Ev_t (by omega) (Ev_b d2 ?_))))))))))
                    by_cases cd : D j < D w
                    · rw [if_pos cd] at nx; exact Ev_t cd nx
                    · rw [if_neg cd] at nx; exact Ev_f cd nx
            have := lp m.length 0 (by omega)
            exact this
          · simp only [impl_GreedyMatches.l0]
            rw [rdF_in t i hi, wr64s i (by omega)]
            have hrev : (ranks D m.length).reverse.filter (unu P) = b :: s.reverse := by rw [List.filter_reverse, h1]; simp
            obtain ⟨A, B, hAB, hA, _, _⟩ := List.filter_eq_cons_iff.1 hrev
            have hup : up (ranks D m.length) = A.map (fun (j : Nat) => (j : Int)) ++ (b : Int) :: B.map (fun (j : Nat) => (j : Int)) := by unfold up; rw [hAB]; simp
            have hul : (up (ranks D m.length)).length = m.length := by rw [up_len, ranks_len]
            have ix := indexf_ev P (by omega) (up (ranks D m.length)) (by omega) (b : Int) (B.map (fun (j : Nat) => (j : Int))) hbP (A.map (fun (j : Nat) => (j : Int))) [] (by simpa using hup) (fun y hy => by
              obtain ⟨z, hz, rfl⟩ := List.mem_map.1 hy
              have := hA z hz
              unfold unu at this
              simpa using this)
            have hAl : A.length < m.length := by
              have := congrArg List.length hup
              rw [hul] at this
              simp at this
              omega
            have ix2 : Ev (fun k => slices_IndexFunc_int64_int64_c1.f k (up (ranks D m.length)) [P]) (A.length : Int) := by
              simp only [slices_IndexFunc_int64_int64_c1.f]
              simpa using ix
            have hrd : rd (up (ranks D m.length)) (A.length : Int) = (b : Int) := by rw [hup]; exact rd_mid _ _ _ _ (by simp)
            refine Ev_t (by omega) (Ev_t (by omega) (Ev_t (by omega) (Ev_b qi ?_)))
            dsimp only
            refine Ev_b ix2 (Ev_t (by omega) (Ev_t (by omega) (Ev_t (by omega) ?_)))
            simp only [hrd]
            exact e2
      obtain ⟨r0, hr0, e1, e2⟩ := go t.length 0 [] (by omega) rfl
      refine ⟨r0, 0, hr0, Ev_b b1 (Ev_t rfl (Ev_b c1 (Ev_suc ?_))), Ev_b (a := 0) ?_ (Ev_t rfl e2)⟩
      · simp only [spec_GreedyMatches.j0]; exact Ev_f (by decide) (Ev_f cl e1)
      · simp only [impl_matchesCode.f]
        refine Ev_b b2 (Ev_t rfl (Ev_b c2 (Ev_suc ?_)))
        simp only [impl_matchesCode.j0]
        exact Ev_f (by decide) (Ev_b (Ev_c wi) (Ev_t rfl (Ev_f cl (Ev_n rfl))))
theorem mkfc_ev (l : List Fe) (c0 : Int) (h0 : 0 ≤ c0) (h1 : c0 ≤ 2000000000000) (hl : (l.length : Int) ≤ 1048576) (hs : ∀ y ∈ l, (y.f1.length : Int) ≤ 1048576) : ∃ r l', 0 ≤ r ∧ Ev (fun k => laws_markFeatureS.f k l c0) (r, l') := by
  have go : ∀ (q p : List Fe) (i : Nat) (c : Int), (∀ y ∈ q, (y.f1.length : Int) ≤ 1048576) → p.length = i → 0 ≤ c → c ≤ 2000000000000 + 1048577 * (i : Int) → (i : Int) + q.length ≤ 1048576 → ∃ r l', 0 ≤ r ∧ Ev (fun k => laws_markFeatureS.l0 k (p ++ q) c i) (r, l') := by
    intro q
    induction q with
    | nil =>
      intro p i c q0 q1 q2 q3 q4
      refine ⟨c, p ++ [], q2, Ev_suc ?_⟩
      simp only [laws_markFeatureS.l0]
      exact Ev_f (by simp; omega) (Ev_n rfl)
    | cons x q ih =>
      intro p i c q0 q1 q2 q3 q4
      simp only [List.length_cons] at q4
      have hx := q0 x (List.mem_cons_self ..)
      have e0 : wrap64 (c + 1) = c + 1 := (wr64 (by omega) (by omega)).trans (by omega)
      obtain ⟨t0, ht0⟩ := markText_ev c (by omega) (by omega)
      obtain ⟨st, _, hst, _⟩ := mk_Int64 x.f1 (c + 1) (by omega) (by omega) (by omega)
      obtain ⟨r, l', hr, he⟩ := ih (p ++ [(⟨t0, st⟩ : Fe)]) (i + 1) (c + 1 + 1 * x.f1.length) (fun y hy => q0 y (List.mem_cons_of_mem _ hy)) (by simp; omega) (by omega) (by omega) (by omega)
      refine ⟨r, l', hr, Ev_suc ?_⟩
      simp only [laws_markFeatureS.l0, e0, set_at p q _ _ i q1, rdF_mid p q x i q1]
      refine Ev_t (by simp; omega) (Ev_b ht0 (Ev_b hst (Ev_t (by omega) ?_)))
      rw [wr64s i (by omega)]
      rw [List.append_assoc, List.singleton_append] at he
      exact he
  simp only [laws_markFeatureS.f]
  exact go l [] 0 c0 hs rfl h0 (by omega) (by simpa using hl)
end Go.Proofs.Yteafahnopgmgoaa.Q
namespace Go.Proofs.Yteafahnopgmgoaa.Q
open Go.RowKit Go.Proofs.YteafahnopgmgoaaW.PrintWords Go.Proofs.YteafahnopgmgoaaW.PrintLast Go.Proofs.YteafahnopgmgoaaW.PrintMore
set_option linter.unusedVariables false
theorem law_GreedyMatches : laws_FnExactGreedyMatches.Pure := by
  intro x x2 hx hx2
  have hM : maxLen = 9223372036854775807 := by decide
  refine Ev.rounds (r := true) ?_
  simp only [laws_FnExactGreedyMatches.f]
  refine Ev_b (szS_Feature x hx.1 hx.2 (1048576) (by omega) (by omega)) ?_
  by_cases cx : ((ZS_Feature x : Nat) : Int) ≤ 1048576
  case neg => rw [cut_neg cx]; exact Ev_t (by decide) (Ev_n rfl)
  rw [cut_pos cx]
  refine Ev_f (by omega) ?_
  refine Ev_b (szS_Feature x2 hx2.1 hx2.2 (1048576 - ((ZS_Feature x : Nat) : Int)) (by omega) (by omega)) ?_
  by_cases cx2 : ((ZS_Feature x2 : Nat) : Int) ≤ 1048576 - ((ZS_Feature x : Nat) : Int)
  case neg => rw [cut_neg cx2]; exact Ev_t (by decide) (Ev_n rfl)
  rw [cut_pos cx2]
  refine Ev_f (by omega) ?_
  have nx : (x.length : Int) ≤ 1048576 := by have := (ZS_in_Feature x).1; omega
  have bx : ∀ q_ ∈ x, B_Feature q_ := fun q_ hq_ => B_of_Feature q_ (by have := (ZS_in_Feature x).2 q_ hq_; omega)
  have mx : ((x.map conv_Feature).length : Int) ≤ 1048576 := by simpa using nx
  have Ex : ∀ q_ ∈ x.map conv_Feature, E_Feature q_ := fun y hy => by obtain ⟨u, hu, rfl⟩ := List.mem_map.1 hy; exact E_of_Feature u (bx u hu)
  have tx := toS_Feature x nx bx
  have qx := eqS_Feature (x.map conv_Feature) mx Ex
  have zx : ∀ q_ ∈ x.map conv_Feature, ∃ u ∈ x, conv_Feature u = q_ ∧ ((Z_Feature u : Nat) : Int) ≤ 1048576 := fun y hy => by obtain ⟨u, hu, e⟩ := List.mem_map.1 hy; exact ⟨u, hu, e, by have := (ZS_in_Feature x).2 u hu; omega⟩
  have nx2 : (x2.length : Int) ≤ 1048576 := by have := (ZS_in_Feature x2).1; omega
  have bx2 : ∀ q_ ∈ x2, B_Feature q_ := fun q_ hq_ => B_of_Feature q_ (by have := (ZS_in_Feature x2).2 q_ hq_; omega)
  have mx2 : ((x2.map conv_Feature).length : Int) ≤ 1048576 := by simpa using nx2
  have Ex2 : ∀ q_ ∈ x2.map conv_Feature, E_Feature q_ := fun y hy => by obtain ⟨u, hu, rfl⟩ := List.mem_map.1 hy; exact E_of_Feature u (bx2 u hu)
  have tx2 := toS_Feature x2 nx2 bx2
  have qx2 := eqS_Feature (x2.map conv_Feature) mx2 Ex2
  have zx2 : ∀ q_ ∈ x2.map conv_Feature, ∃ u ∈ x2, conv_Feature u = q_ ∧ ((Z_Feature u : Nat) : Int) ≤ 1048576 := fun y hy => by obtain ⟨u, hu, e⟩ := List.mem_map.1 hy; exact ⟨u, hu, e, by have := (ZS_in_Feature x2).2 u hu; omega⟩
  have vfx : ∀ y ∈ x.map conv_Feature, (y.f1.length : Int) ≤ 1048576 := (fun y hy => by obtain ⟨u_, _, rfl, h_⟩ := zx y hy; unfold Z_Feature at h_; show ((u_.f1.length : Nat) : Int) ≤ 1048576; omega)
  have vfx2 : ∀ y ∈ x2.map conv_Feature, (y.f1.length : Int) ≤ 1048576 := (fun y hy => by obtain ⟨u_, _, rfl, h_⟩ := zx2 y hy; unfold Z_Feature at h_; show ((u_.f1.length : Nat) : Int) ≤ 1048576; omega)
  obtain ⟨r0, r1, E0, e1, e2⟩ := greedy_ev (x.map conv_Feature) (x2.map conv_Feature) mx mx2 vfx
  have qr0 := eqInt64S_ev' r0 (by omega)
  obtain ⟨Rx, px, hRx, gRx, mmx⟩ := mkf_ev (x.map conv_Feature) mx vfx
  obtain ⟨Rx2, px2, hRx2, mmx2⟩ := mkfc_ev (x2.map conv_Feature) Rx hRx gRx mx2 vfx2
  obtain ⟨pr0, _, mr0, hr0⟩ := mk_Int64 r0 1 (by omega) (by omega) (by omega)
  repeat' (first | ((first | (with_reducible refine Ev_b e1 ?_) | (with_reducible refine Ev_b e2 ?_) | (with_reducible refine Ev_b tx ?_) | (with_reducible refine Ev_b qx ?_) | (with_reducible refine Ev_b tx2 ?_) | (with_reducible refine Ev_b qx2 ?_) | (with_reducible refine Ev_b qr0 ?_) | (with_reducible refine Ev_b mmx ?_) | (with_reducible refine Ev_b mmx2 ?_) | (with_reducible refine Ev_b mr0 ?_) | (with_reducible refine Ev_b hr0 ?_)); try dsimp only) | (with_reducible refine Ev_t rfl ?_) | (with_reducible refine Ev_t True.intro ?_) | (refine Ev_f (by omega) ?_) | (refine Ev_t (by omega) ?_) | (refine Ev_f (by simp) ?_) | exact Ev_n rfl | (refine Ev_suc ?_; first | simp only [laws_FnExactGreedyMatches.j0] | simp only [laws_FnExactGreedyMatches.j1] | simp only [laws_FnExactGreedyMatches.j2]))
end Go.Proofs.Yteafahnopgmgoaa.Q
namespace Go.Proofs.Yteafahnopgmgoaa.Pure
open Go.Proofs.Yteafahnopgmgoaa.Q
theorem FnExactGreedyMatches : laws_FnExactGreedyMatches.Pure := law_GreedyMatches
end Go.Proofs.Yteafahnopgmgoaa.Pure
namespace Go.Proofs.Yteafahnopgmgoaa.fnExactGreedyMatches
open Go.ChangeShapes Go.WideShapes Go.ChangeAt Go.RowKit Go.Proofs.Yteafahnopgmgoaa.OPN Go.Proofs.Yteafahnopgmgoaa.Q Go.Proofs.YteafahnopgmgoaaW.PrintWords
open Go.ChangeMaps (open_string shut_string)
set_option linter.unusedVariables false
theorem own : ownKnob Try.prog.godebug = none := by kernel_rfl
theorem laidOut : laidOutB Try.prog = true := by kernel_rfl
set_option maxRecDepth 100000 in
theorem lifted (os : Os) (started : os.Started) (H : Type) (enc : TypeId × Value → H) :
    ReturnsInHanded {} Try.checked os 11 .any (Rows.fnExactGreedyMatchesSpec.pre6 enc Try.prog Try.f11 Rows.fnExactGreedyMatchesRow.domain false) (Rows.fnExactGreedyMatchesSpec.post enc Try.prog Try.f11 false true false false) := by
  refine returnsInHanded_of_change_sized (C := Try.checked) own started (by kernel_rfl) Try.func11
    (ChangeSpec.witness6 (enc := enc) (C := Try.checked) false ⟨#[], #[.slice none 0 0, .slice none 0 0], []⟩ 8 (by kernel_rfl) (by kernel_rfl) (by kernel_rfl) (by kernel_rfl)) ?_
  intro W base args ds gs before hval0 hW hcnd hsz0 _
  have hval : ∀ (j : Nat) t v, Try.f11.params[j]? = some t → args[j]? = some v → Value.okWide Try.prog W .any base t v := hval0
  have hW' := hW
  obtain ⟨p, q, hA0, hV, rfl, hfz, hnd⟩ := hW
  have hA : DataW.TrodAll enc Try.prog W 0 (fun _ => true) true Try.f11.params.toList args.toList ds p := hA0
  rw [Try.params11] at hA hval
  obtain ⟨v0, vs0, d0, ds0, p0, q0, hargs, rfl, rfl, h0, r0⟩ := trodAll_cons hA
  obtain ⟨v1, vs1, d1, ds1, p1, q1, rfl, rfl, rfl, h1, r1⟩ := trodAll_cons r0
  obtain ⟨rfl, rfl, rfl⟩ := trodAll_nil r1
  obtain rfl : args = #[v0, v1] := by cases args; simp_all
  obtain ⟨rfl, rfl⟩ := trodVars_none hV
  have lt0 : ∀ x ∈ p0, x.block < W.heap.size := by obtain ⟨m, hm⟩ := h0; exact DataW.trod_lt m _ _ _ hm
  have k0 := h0
  obtain ⟨z0, y0, u0, rfl⟩ := okWide_slice Try.underlying32 (hval 0 32 v0 rfl rfl)
  obtain ⟨fu0, hf0⟩ := h0
  obtain ⟨x0, ⟨A0, c0, hcs0, hc0, hr0⟩, w0⟩ := ((opn_slice Try.underlying32 (by kernel_rfl) opn24) : Opn _ _ (Kd.slice 24 k24) _).get rfl hf0
  obtain ⟨rfl, rfl, rfl⟩ : A0 = z0 ∧ x0.length = y0 ∧ c0 = u0 := (fun (h_ : z0 = A0 ∧ y0 = x0.length ∧ u0 = c0) => ⟨h_.1.symm, h_.2.1.symm, h_.2.2.symm⟩) (by simpa [Value.cells] using hcs0)
  have lt1 : ∀ x ∈ p1, x.block < W.heap.size := by obtain ⟨m, hm⟩ := h1; exact DataW.trod_lt m _ _ _ hm
  have k1 := h1
  obtain ⟨z1, y1, u1, rfl⟩ := okWide_slice Try.underlying32 (hval 1 32 v1 rfl rfl)
  obtain ⟨fu1, hf1⟩ := h1
  obtain ⟨x1, ⟨A1, c1, hcs1, hc1, hr1⟩, w1⟩ := ((opn_slice Try.underlying32 (by kernel_rfl) opn24) : Opn _ _ (Kd.slice 24 k24) _).get rfl hf1
  obtain ⟨rfl, rfl, rfl⟩ : A1 = z1 ∧ x1.length = y1 ∧ c1 = u1 := (fun (h_ : z1 = A1 ∧ y1 = x1.length ∧ u1 = c1) => ⟨h_.1.symm, h_.2.1.symm, h_.2.2.symm⟩) (by simpa [Value.cells] using hcs1)
  clear hA0 hval0 hsz0
  obtain ⟨k, hP⟩ := Pure.FnExactGreedyMatches x0 x1 w0 w1
  refine (laws_FnExactGreedyMatches.calls k A0 c0 x0 A1 c1 x1 true W hr0 hc0 hr1 hc1 hP).mono fun e W' hh => ?_
  obtain ⟨rfl, bel0⟩ := hh
  have bel : Below W.heap.size W W' := bel0
  exact ⟨_, rfl, _, _, _, [], _, [], hW', trodAll_mk1 (shut_bool Try.underlying4 _), (trodAll_cons_mk (Below.trod laidOut (by kernel_rfl) (of_decide_eq_true (by kernel_rfl)) k0 bel lt0) (trodAll_cons_mk (Below.trod laidOut (by kernel_rfl) (of_decide_eq_true (by kernel_rfl)) k1 bel lt1) trodAll_mk0)), rfl, bel.frame _, fun h => by cases h⟩
theorem over : Rows.fnExactGreedyMatchesRow.holds Try.pinned (OpenSpec.ofChange Rows.fnExactGreedyMatchesSpec) :=
  OpenClaim.holds_of_wide 11 Try.f11 rfl rfl rfl rfl rfl rfl rfl ⟨rfl, rfl, rfl, rfl, rfl⟩ rfl rfl rfl rfl rfl (by kernel_rfl) Try.func11 (by kernel_rfl)
    (of_decide_eq_true (by kernel_rfl)) (by unfold Func.isWrapper; first | (rw [if_pos (by decide +kernel)]; kernel_rfl) | (rw [if_neg (by decide +kernel)]; exact ⟨rfl, rfl⟩))
    (fun os started H enc _ => lifted os started H enc)
theorem proved : Rows.FnExactGreedyMatchesSaid := over
#print axioms proved
end Go.Proofs.Yteafahnopgmgoaa.fnExactGreedyMatches
namespace Go.Proofs.Yteafahnopgmgoaa
theorem fnExactGreedyMatches_holds : Rows.FnExactGreedyMatchesSaid := fnExactGreedyMatches.proved
end Go.Proofs.Yteafahnopgmgoaa
