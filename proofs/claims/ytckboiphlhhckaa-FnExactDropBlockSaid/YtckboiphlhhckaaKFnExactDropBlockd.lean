/- A block dropped from a list, by the program as by the reference. This text holds the last walks, the plain law and the row. -/
import Derived.Test.YtckboiphlhhckaaRows
import Derived.WalkKit
import Derived.ProofKit
import Derived.OpenShut
import Derived.ShutString
import Derived.ChangeOld
import Derived.Below
import Derived.SizedLaws
import Derived.Carry
import Derived.Test.YtckboiphlhhckaaKFnExactDropBlocka
import Derived.Test.YtckboiphlhhckaaKFnExactDropBlockb
import Derived.Test.YtckboiphlhhckaaKFnExactDropBlockc
set_option linter.unusedVariables false
set_option linter.unusedSimpArgs false
/- Own lemmas: names, as the reference and as the program test them. -/
namespace Go.Proofs.Ytckboiphlhhckaa.Q
open Go.RowKit Go.Proofs.YtckboiphlhhckaaW.PrintWords Go.Proofs.YtckboiphlhhckaaW.PrintLast Go.Proofs.YtckboiphlhhckaaW.PrintMore
theorem toList_len (x : ByteArray) : x.toList.length = x.size := by
  rw [Go.ByteArray.toList_eq x, Array.length_toList]; rfl
theorem name_round (k : Nat) (x : ByteArray) (i : Int) : spec_l01Name.l0 k x i = impl_IsName.l0 k x i := by
  induction k generalizing i with
  | zero => rfl
  | succ k ih =>
    simp only [spec_l01Name.l0, impl_IsName.l0, ih, spec_l01Small.f, spec_l01Digit.f]
    by_cases h1 : i < (x.size : Int)
    · rw [if_pos h1, if_pos h1]
      by_cases h2 : 0 ≤ i
      · rw [if_pos h2, if_pos h2]
        generalize bt x i = c
        by_cases h3 : c < 97
        · rw [if_pos h3, if_neg (by omega)]
          by_cases h4 : c < 48
          · rw [if_pos h4, if_neg (by omega)]; simp
          · rw [if_neg h4, if_pos (by omega)]
            by_cases h5 : c > 57
            · rw [if_pos h5]; simp [show ¬ c ≤ 57 by omega]
            · rw [if_neg h5]; simp [show c ≤ 57 by omega]
        · rw [if_neg h3, if_pos (show c ≥ 97 by omega)]
          by_cases h4 : c > 122
          · simp [h4, show ¬ c < 48 by omega, show c > 57 by omega, show ¬ c ≤ 122 by omega, show ¬ c ≤ 57 by omega]
          · rw [if_neg h4]; simp [show c ≤ 122 by omega]
      · rw [if_neg h2, if_neg h2]
    · rw [if_neg h1, if_neg h1]
theorem name_same (k : Nat) (x : ByteArray) : spec_l01Name.f k x = impl_IsName.f k x := by
  have hj : ∀ b, spec_l01Name.j0 k x b = impl_IsName.j0 k x b := by
    intro b
    cases k with
    | zero => rfl
    | succ k => simp only [spec_l01Name.j0, impl_IsName.j0, name_round]
  unfold spec_l01Name.f impl_IsName.f spec_l01Small.f
  simp only [hj]
  by_cases h0 : x.toList = []
  · have : x.size = 0 := by rw [← toList_len, h0]; rfl
    rw [if_pos h0, if_pos (by omega)]
  · have : x.size ≠ 0 := by
      intro e; apply h0; apply List.eq_nil_of_length_eq_zero; rw [toList_len, e]
    rw [if_neg h0, if_neg (show ¬ (x.size : Int) < 1 by omega)]
    by_cases h1 : (x.size : Int) > 10
    · rw [if_pos h1, if_pos h1]
    · rw [if_neg h1, if_neg h1, if_pos (show 0 < (x.size : Int) by omega), if_pos (show 0 < (x.size : Int) by omega)]
      generalize bt x 0 = c
      by_cases h3 : c < 97
      · rw [if_pos h3, if_neg (show ¬ c ≥ 97 by omega)]; rfl
      · rw [if_neg h3, if_pos (show c ≥ 97 by omega)]
        simp only [Option.bind_some]
        congr 1
        by_cases h4 : c > 122
        · simp [h4, show ¬ c ≤ 122 by omega]
        · simp [h4, show c ≤ 122 by omega]
theorem name_ev (x : ByteArray) : ∃ b, ∀ k, 12 < k → impl_IsName.f k x = some b := by
  have go : ∀ (d : Nat) (i : Int), 0 ≤ i → i + d = x.size → (x.size : Int) ≤ 10 → ∃ b, ∀ k, d < k → impl_IsName.l0 k x i = some b := by
    intro d
    induction d with
    | zero =>
      intro i h0 h1 _
      refine ⟨true, fun k hk => ?_⟩
      obtain ⟨k, rfl⟩ : ∃ m, k = m + 1 := ⟨k - 1, by omega⟩
      simp only [impl_IsName.l0]
      rw [if_neg (by omega)]
    | succ d ih =>
      intro i h0 h1 h2
      obtain ⟨b, hb⟩ := ih (i + 1) (by omega) (by omega) h2
      by_cases h3 : bt x i < 97
      · by_cases h4 : bt x i < 48
        · refine ⟨false, fun k hk => ?_⟩
          obtain ⟨k, rfl⟩ : ∃ m, k = m + 1 := ⟨k - 1, by omega⟩
          simp only [impl_IsName.l0]
          rw [if_pos (by omega), if_pos h0, if_pos h3, if_pos h4]
        · by_cases h5 : bt x i > 57
          · refine ⟨false, fun k hk => ?_⟩
            obtain ⟨k, rfl⟩ : ∃ m, k = m + 1 := ⟨k - 1, by omega⟩
            simp only [impl_IsName.l0]
            rw [if_pos (by omega), if_pos h0, if_pos h3, if_neg h4, if_pos h5]
          · refine ⟨b, fun k hk => ?_⟩
            obtain ⟨k, rfl⟩ : ∃ m, k = m + 1 := ⟨k - 1, by omega⟩
            simp only [impl_IsName.l0]
            rw [if_pos (by omega), if_pos h0, if_pos h3, if_neg h4, if_neg h5, w64 (by omega) (by omega), hb k (by omega)]
      · by_cases h4 : bt x i > 122
        · refine ⟨false, fun k hk => ?_⟩
          obtain ⟨k, rfl⟩ : ∃ m, k = m + 1 := ⟨k - 1, by omega⟩
          simp only [impl_IsName.l0]
          rw [if_pos (by omega), if_pos h0, if_neg h3, if_pos h4, if_neg (by omega), if_pos (by omega)]
        · refine ⟨b, fun k hk => ?_⟩
          obtain ⟨k, rfl⟩ : ∃ m, k = m + 1 := ⟨k - 1, by omega⟩
          simp only [impl_IsName.l0]
          rw [if_pos (by omega), if_pos h0, if_neg h3, if_neg h4, w64 (by omega) (by omega), hb k (by omega)]
  have hj : ∀ (b : Bool), (b = false → (x.size : Int) ≤ 10) → ∃ c, ∀ k, 12 < k → impl_IsName.j0 k x b = some c := by
    intro b hs
    cases b with
    | true =>
      refine ⟨false, fun k hk => ?_⟩
      obtain ⟨k, rfl⟩ : ∃ m, k = m + 1 := ⟨k - 1, by omega⟩
      simp only [impl_IsName.j0, if_true]
    | false =>
      obtain ⟨c, hc⟩ := go x.size 0 (by omega) (by omega) (hs rfl)
      have := hs rfl
      refine ⟨c, fun k hk => ?_⟩
      obtain ⟨k, rfl⟩ : ∃ m, k = m + 1 := ⟨k - 1, by omega⟩
      simp only [impl_IsName.j0]
      rw [if_neg (by decide), hc k (by omega)]
  unfold impl_IsName.f
  by_cases h1 : (x.size : Int) < 1
  · simp only [if_pos h1]; exact hj true (by intro h; cases h)
  · simp only [if_neg h1]
    by_cases h2 : (x.size : Int) > 10
    · simp only [if_pos h2]; exact hj true (by intro h; cases h)
    · simp only [if_neg h2, if_pos (show 0 < (x.size : Int) by omega)]
      by_cases h3 : bt x 0 < 97
      · simp only [if_pos h3]; exact hj true (by intro h; cases h)
      · simp only [if_neg h3]; exact hj _ (fun _ => by omega)
end Go.Proofs.Ytckboiphlhhckaa.Q
namespace Go.Proofs.Ytckboiphlhhckaa.Q
open Go.RowKit Go.Proofs.YtckboiphlhhckaaW.PrintWords Go.Proofs.YtckboiphlhhckaaW.PrintLast Go.Proofs.YtckboiphlhhckaaW.PrintMore
attribute [local go_sem] max2_int min2_int max_two min_two max_three min_three max_four min_four   -- for this text's walks alone
set_option linter.unusedVariables false
set_option linter.unusedSimpArgs false

/-! ### spec_ValidBlock: function 18 -/
def spec_ValidBlock.f (k : Nat) (a0_0 : ByteArray) (a0_1 : ByteArray) (a0_2 : ByteArray) : Option (Bool) := (spec_l29One.f k [(⟨a0_0, a0_1, a0_2⟩ : S32)]).bind fun t102 => (some t102)
theorem spec_ValidBlock.mono : ∀ a0 a1 a2 k, LeO (spec_ValidBlock.f k a0 a1 a2) (spec_ValidBlock.f (k + 1) a0 a1 a2) := by
  intro a0 a1 a2 k
  unfold spec_ValidBlock.f
  repeat' first
      | (with_reducible exact spec_l29One.mono _ _)
      | (with_reducible exact LeO.refl _)
      | (with_reducible exact LeO.none _)
      | (with_reducible refine LeO.ite ?_ ?_)
      | (with_reducible refine LeO.bind ?_ (fun _ => ?_))
      | exact spec_l29One.mono _ _
      | exact LeO.none _
      | refine LeO.ite ?_ ?_
      | refine LeO.bind ?_ (fun _ => ?_)
set_option maxHeartbeats 8000000 in
set_option maxRecDepth 100000 in
theorem spec_ValidBlock.calls (k : Nat) (a0_0 : ByteArray) (a0_1 : ByteArray) (a0_2 : ByteArray) (r : Bool) (w : World) (h : spec_ValidBlock.f k a0_0 a0_1 a0_2 = some r) :
    Calls Try.prog 18 #[.agg #[.string a0_0, .string a0_1, .string a0_2]] w fun e w' => e = .returned (.bool r) ∧ Below w.heap.size w w' := by
  have hu32 := Try.underlying32
  have HB := Aside0.mk (Below.refl w.heap.size w)
  have H : ((spec_l29One.f k [(⟨a0_0, a0_1, a0_2⟩ : S32)]).bind fun t102 => (some t102)) = some r := h
  clear h
  replace H := Option.bind_eq_some_iff.mp H
  obtain ⟨t102, A20, H⟩ := H
  replace H : (some t102) = some r := H
  have A2 := Aside0.mk A20
  clear A20
  obtain rfl := Option.some.inj H
  go_enter Try.func18, Try.ntmps18
  go_wp2_with (first | ((with_reducible refine gate_dst (N := 1) rfl ?_); refine box_event ?hg (N := 1) ?hd (cs := #[.string a0_0, .string a0_1, .string a0_2]) (t := 32) ?hr ?_; (case hd => rfl); (case hg => rfl); (case hr => first | (go_simp; done) | (go_simp; rfl)); intro gb101 hg w3 hbox hb; have n0_ := Aside0.mk (below_step (by repeat (first | (with_reducible first | exact HB.out | apply below_alloc | apply pw_below_drewN | apply below_drew1) | exact HB.out)) hb); have n1_ := Aside0.mk (hbox); have n2_ := Aside0.mk ((by rw [hg]; exact (below_size (by repeat (first | (with_reducible first | exact HB.out | apply below_alloc | apply pw_below_drewN | apply below_drew1) | exact HB.out))) : w.heap.size ≤ gb101)); have n3_ := Aside0.mk ((by rw [hg]; exact (below_size (by repeat (first | (with_reducible first | exact HB.out | apply below_alloc | apply pw_below_drewN | apply below_drew1) | exact HB.out))) : w.heap.size ≤ gb101)); clear HB; have HB := n0_; have BK101 := n1_; have GW101 := n2_; have GE101 := n3_; clear n0_ n1_ n2_ n3_; clear hb hbox hg) | ((with_reducible refine gate_callee (f := 43) rfl ?_); refine goesL_ (some 3) rfl rfl Try.func43 (by kernel_rfl) rfl #[.pointer (some (Addr.add ⟨gb101, 0, none⟩ 0))] rfl (by (try simp only [List.map_toArray, List.map_cons, List.map_nil]); first | done | rfl | (simp only [List.length_drop, List.length_take]; rfl)) ?_; (with_reducible refine (spec_l29One.calls k _ [(⟨a0_0, a0_1, a0_2⟩ : S32)] t102 _ ?side1 A2.out).mono ?_); (case side1 => exact (RPW.C_blk (cs := [.string a0_0, .string a0_1, .string a0_2]) (t := 32) (g := gb101) (by (with_reducible repeat (first | refine blk_drewN ?_ _ | refine blk_drew ?_ | refine blk_alloc ?_ _)); exact BK101.out) (k32_mk _ (⟨a0_0, a0_1, a0_2⟩ : S32)))); rintro e w' ⟨rfl, ⟨nd, rfl⟩⟩; refine ⟨_, rfl, ?_⟩))
  go_ret
  exact ⟨by first | rfl | (simp [errW_none, errW_some] <;> rfl) | (simp [*, errW_none, errW_some] <;> rfl), by repeat (first | (with_reducible first | exact HB.out | apply below_alloc | apply pw_below_drewN | apply below_drew1 | refine below_set ?_ GE101.out) | exact HB.out)⟩

end Go.Proofs.Ytckboiphlhhckaa.Q
namespace Go.Proofs.Ytckboiphlhhckaa.Q
open Go.RowKit Go.Proofs.YtckboiphlhhckaaW.PrintWords Go.Proofs.YtckboiphlhhckaaW.PrintLast Go.Proofs.YtckboiphlhhckaaW.PrintMore
attribute [local go_sem] max2_int min2_int max_two min_two max_three min_three max_four min_four   -- for this text's walks alone
set_option linter.unusedVariables false
set_option linter.unusedSimpArgs false

/-! ### laws_FnExactValidBlock: function 4 -/
def laws_FnExactValidBlock.f (k : Nat) (a0_0 : ByteArray) (a0_1 : ByteArray) (a0_2 : ByteArray) : Option (Bool) := (laws_szBlock.f a0_0 a0_1 a0_2 1048576).bind fun t102 => (if t102 < 0 then (some true) else ((laws_toBlock.f a0_0 a0_1 a0_2).bind fun bt103 => ((spec_ValidBlock.f k bt103.1 bt103.2.1 bt103.2.2).bind fun t106 => ((laws_toBlock.f a0_0 a0_1 a0_2).bind fun bt107 => ((impl_ValidBlock.f k bt107.1 bt107.2.1 bt107.2.2).bind fun t110 => (if (t110 != t106) = true then (some false) else (some true)))))))
theorem laws_FnExactValidBlock.mono : ∀ a0 a1 a2 k, LeO (laws_FnExactValidBlock.f k a0 a1 a2) (laws_FnExactValidBlock.f (k + 1) a0 a1 a2) := by
  intro a0 a1 a2 k
  unfold laws_FnExactValidBlock.f
  repeat' first
      | (with_reducible exact impl_ValidBlock.mono _ _ _ _)
      | (with_reducible exact spec_ValidBlock.mono _ _ _ _)
      | (with_reducible exact LeO.refl _)
      | (with_reducible exact LeO.none _)
      | (with_reducible refine LeO.ite ?_ ?_)
      | (with_reducible refine LeO.bind ?_ (fun _ => ?_))
      | exact impl_ValidBlock.mono _ _ _ _
      | exact spec_ValidBlock.mono _ _ _ _
      | exact LeO.none _
      | refine LeO.ite ?_ ?_
      | refine LeO.bind ?_ (fun _ => ?_)
set_option maxHeartbeats 8000000 in
set_option maxRecDepth 100000 in
theorem laws_FnExactValidBlock.calls (k : Nat) (a0_0 : ByteArray) (a0_1 : ByteArray) (a0_2 : ByteArray) (r : Bool) (w : World) (h : laws_FnExactValidBlock.f k a0_0 a0_1 a0_2 = some r) :
    Calls Try.prog 4 #[.agg #[.string a0_0, .string a0_1, .string a0_2]] w fun e w' => e = .returned (.bool r) ∧ Below w.heap.size w w' := by
  have hu29 := Try.underlying29
  have HB := Aside0.mk (Below.refl w.heap.size w)
  have H : ((laws_szBlock.f a0_0 a0_1 a0_2 1048576).bind fun t102 => (if t102 < 0 then (some true) else ((laws_toBlock.f a0_0 a0_1 a0_2).bind fun bt103 => ((spec_ValidBlock.f k bt103.1 bt103.2.1 bt103.2.2).bind fun t106 => ((laws_toBlock.f a0_0 a0_1 a0_2).bind fun bt107 => ((impl_ValidBlock.f k bt107.1 bt107.2.1 bt107.2.2).bind fun t110 => (if (t110 != t106) = true then (some false) else (some true)))))))) = some r := h
  clear h
  replace H := Option.bind_eq_some_iff.mp H
  obtain ⟨t102, A20, H⟩ := H
  replace H : (if t102 < 0 then (some true) else ((laws_toBlock.f a0_0 a0_1 a0_2).bind fun bt103 => ((spec_ValidBlock.f k bt103.1 bt103.2.1 bt103.2.2).bind fun t106 => ((laws_toBlock.f a0_0 a0_1 a0_2).bind fun bt107 => ((impl_ValidBlock.f k bt107.1 bt107.2.1 bt107.2.2).bind fun t110 => (if (t110 != t106) = true then (some false) else (some true))))))) = some r := H
  have A2 := Aside0.mk A20
  clear A20
  have HC3 := Aside0.mk H
  clear H
  go_enter Try.func4, Try.ntmps4
  go_upto_if 10 with (first | ((with_reducible refine gate_dst (N := 1) rfl ?_); refine box_event ?hg (N := 1) ?hd (cs := #[.string a0_0, .string a0_1, .string a0_2]) (t := 29) ?hr ?_; (case hd => rfl); (case hg => rfl); (case hr => first | (go_simp; done) | (go_simp; rfl)); intro gb101 hg w4 hbox hb; have n0_ := Aside0.mk (below_step (by repeat (first | (with_reducible first | exact HB.out | apply below_alloc | apply pw_below_drewN | apply below_drew1) | exact HB.out)) hb); have n1_ := Aside0.mk (hbox); have n2_ := Aside0.mk ((by rw [hg]; exact (below_size (by repeat (first | (with_reducible first | exact HB.out | apply below_alloc | apply pw_below_drewN | apply below_drew1) | exact HB.out))) : w.heap.size ≤ gb101)); have n3_ := Aside0.mk ((by rw [hg]; exact (below_size (by repeat (first | (with_reducible first | exact HB.out | apply below_alloc | apply pw_below_drewN | apply below_drew1) | exact HB.out))) : w.heap.size ≤ gb101)); clear HB; have HB := n0_; have BK101 := n1_; have GW101 := n2_; have GE101 := n3_; clear n0_ n1_ n2_ n3_; clear hb hbox hg; have hcz5_0 : w4.cell? ⟨gb101, 0, none⟩ = some (.string a0_0) := (blk_cell BK101.out 0).trans rfl; have hcz5_1 : w4.cell? ⟨gb101, 1, none⟩ = some (.string a0_1) := (blk_cell BK101.out 1).trans rfl; have hcz5_2 : w4.cell? ⟨gb101, 2, none⟩ = some (.string a0_2) := (blk_cell BK101.out 2).trans rfl; have hfz5_0 := blk_frozen BK101.out 0; have hfz5_1 := blk_frozen BK101.out 1; have hfz5_2 := blk_frozen BK101.out 2) | ((with_reducible refine gate_callee (f := 17) rfl ?_); refine goesL_ (some 8) rfl rfl Try.func17 (by kernel_rfl) rfl #[.agg #[.string a0_0, .string a0_1, .string a0_2], .int .i64 1048576] rfl (by (try simp only [List.map_toArray, List.map_cons, List.map_nil]); first | done | rfl | (simp only [List.length_drop, List.length_take]; rfl)) ?_; (with_reducible refine (laws_szBlock.calls a0_0 a0_1 a0_2 1048576 t102 _ A2.out).mono ?_); rintro e w6 ⟨rfl, hb⟩; refine ⟨_, rfl, ?_⟩; have n0_ := Aside0.mk (blk_below (g := gb101) (o := .cells #[.string a0_0, .string a0_1, .string a0_2] 29 (0, 0)) (by (with_reducible repeat (first | refine blk_drewN ?_ _ | refine blk_drew ?_ | refine blk_alloc ?_ _)); exact BK101.out) hb); have n1_ := Aside0.mk (below_step (by repeat (first | (with_reducible first | exact HB.out | apply below_alloc | apply pw_below_drewN | apply below_drew1 | refine below_set ?_ GE101.out) | exact HB.out)) hb); clear BK101; clear HB; have BK101 := n0_; have HB := n1_; clear n0_ n1_; (try clear hb); (try clear hb2); (try clear hk); (try clear hi)))
  (try simp only [Act.put, List.setIfInBounds_toArray, List.set_cons_zero, List.set_cons_succ])
  have H := HC3.out
  clear HC3
  by_cases c7 : t102 < 0
  · rw [if_pos c7] at H
    have c7b0 : decide (t102 < 0) = true := decide_eq_true c7
    clear c7
    (first | rw [c7b0] | (simp only [i64_w, i32_w]; rw [c7b0]) | (simp only [c7b2, Bool.not_true, Bool.not_false]) | (simp only [c7b1, Bool.not_true, Bool.not_false]) | (simp only [c7b0, Bool.not_true, Bool.not_false]) | skip)
    obtain rfl := Option.some.inj H
    go_wp2
    go_ret
    exact ⟨by first | rfl | (simp [errW_none, errW_some] <;> rfl) | (simp [*, errW_none, errW_some] <;> rfl), by repeat (first | (with_reducible first | exact HB.out | apply below_alloc | apply pw_below_drewN | apply below_drew1 | refine below_set ?_ GE101.out) | exact HB.out)⟩
  · rw [if_neg c7] at H
    have c7b0 : decide (t102 < 0) = false := decide_eq_false c7
    clear c7
    (first | rw [c7b0] | (simp only [i64_w, i32_w]; rw [c7b0]) | (simp only [c7b2, Bool.not_true, Bool.not_false]) | (simp only [c7b1, Bool.not_true, Bool.not_false]) | (simp only [c7b0, Bool.not_true, Bool.not_false]) | skip)
    replace H := Option.bind_eq_some_iff.mp H
    obtain ⟨⟨t103, t104, t105⟩, A80, H⟩ := H
    replace H : ((spec_ValidBlock.f k t103 t104 t105).bind fun t106 => ((laws_toBlock.f a0_0 a0_1 a0_2).bind fun bt107 => ((impl_ValidBlock.f k bt107.1 bt107.2.1 bt107.2.2).bind fun t110 => (if (t110 != t106) = true then (some false) else (some true))))) = some r := H
    have A8 := Aside0.mk A80
    clear A80
    replace H := Option.bind_eq_some_iff.mp H
    obtain ⟨t106, A90, H⟩ := H
    replace H : ((laws_toBlock.f a0_0 a0_1 a0_2).bind fun bt107 => ((impl_ValidBlock.f k bt107.1 bt107.2.1 bt107.2.2).bind fun t110 => (if (t110 != t106) = true then (some false) else (some true)))) = some r := H
    have A9 := Aside0.mk A90
    clear A90
    replace H := Option.bind_eq_some_iff.mp H
    obtain ⟨⟨t107, t108, t109⟩, A100, H⟩ := H
    replace H : ((impl_ValidBlock.f k t107 t108 t109).bind fun t110 => (if (t110 != t106) = true then (some false) else (some true))) = some r := H
    have A10 := Aside0.mk A100
    clear A100
    replace H := Option.bind_eq_some_iff.mp H
    obtain ⟨t110, A110, H⟩ := H
    replace H : (if (t110 != t106) = true then (some false) else (some true)) = some r := H
    have A11 := Aside0.mk A110
    clear A110
    have HC12 := Aside0.mk H
    clear H
    have hcz13_0 : w6.cell? ⟨gb101, 0, none⟩ = some (.string a0_0) := (blk_cell BK101.out 0).trans rfl
    have hcz13_1 : w6.cell? ⟨gb101, 1, none⟩ = some (.string a0_1) := (blk_cell BK101.out 1).trans rfl
    have hcz13_2 : w6.cell? ⟨gb101, 2, none⟩ = some (.string a0_2) := (blk_cell BK101.out 2).trans rfl
    have hfz13_0 := blk_frozen BK101.out 0
    have hfz13_1 := blk_frozen BK101.out 1
    have hfz13_2 := blk_frozen BK101.out 2
    go_upto_if 19 with (first | ((with_reducible refine gate_callee (f := 19) rfl ?_); refine goesL_ (some 12) rfl rfl Try.func19 (by kernel_rfl) rfl #[.agg #[.string a0_0, .string a0_1, .string a0_2]] rfl (by (try simp only [List.map_toArray, List.map_cons, List.map_nil]); first | done | rfl | (simp only [List.length_drop, List.length_take]; rfl)) ?_; (with_reducible refine (laws_toBlock.calls a0_0 a0_1 a0_2 t103 t104 t105 _ A8.out).mono ?_); rintro e w14 ⟨rfl, hb⟩; refine ⟨_, rfl, ?_⟩; have n0_ := Aside0.mk (blk_below (g := gb101) (o := .cells #[.string a0_0, .string a0_1, .string a0_2] 29 (0, 0)) (by (with_reducible repeat (first | refine blk_drewN ?_ _ | refine blk_drew ?_ | refine blk_alloc ?_ _)); exact BK101.out) hb); have n1_ := Aside0.mk (below_step (by repeat (first | (with_reducible first | exact HB.out | apply below_alloc | apply pw_below_drewN | apply below_drew1 | refine below_set ?_ GE101.out) | exact HB.out)) hb); clear BK101; clear HB; have BK101 := n0_; have HB := n1_; clear n0_ n1_; (try clear hb); (try clear hb2); (try clear hk); (try clear hi)) | ((with_reducible refine gate_callee (f := 18) rfl ?_); refine goesL_ (some 13) rfl rfl Try.func18 (by kernel_rfl) rfl #[.agg #[.string t103, .string t104, .string t105]] rfl (by (try simp only [List.map_toArray, List.map_cons, List.map_nil]); first | done | rfl | (simp only [List.length_drop, List.length_take]; rfl)) ?_; (with_reducible refine (spec_ValidBlock.calls k t103 t104 t105 t106 _ A9.out).mono ?_); rintro e w15 ⟨rfl, hb⟩; refine ⟨_, rfl, ?_⟩; have n0_ := Aside0.mk (blk_below (g := gb101) (o := .cells #[.string a0_0, .string a0_1, .string a0_2] 29 (0, 0)) (by (with_reducible repeat (first | refine blk_drewN ?_ _ | refine blk_drew ?_ | refine blk_alloc ?_ _)); exact BK101.out) hb); have n1_ := Aside0.mk (below_step (by repeat (first | (with_reducible first | exact HB.out | apply below_alloc | apply pw_below_drewN | apply below_drew1 | refine below_set ?_ GE101.out) | exact HB.out)) hb); clear BK101; clear HB; have BK101 := n0_; have HB := n1_; clear n0_ n1_; (try clear hb); (try clear hb2); (try clear hk); (try clear hi); have hcz16_0 : w15.cell? ⟨gb101, 0, none⟩ = some (.string a0_0) := (blk_cell BK101.out 0).trans rfl; have hcz16_1 : w15.cell? ⟨gb101, 1, none⟩ = some (.string a0_1) := (blk_cell BK101.out 1).trans rfl; have hcz16_2 : w15.cell? ⟨gb101, 2, none⟩ = some (.string a0_2) := (blk_cell BK101.out 2).trans rfl; have hfz16_0 := blk_frozen BK101.out 0; have hfz16_1 := blk_frozen BK101.out 1; have hfz16_2 := blk_frozen BK101.out 2) | ((with_reducible refine gate_callee (f := 19) rfl ?_); refine goesL_ (some 15) rfl rfl Try.func19 (by kernel_rfl) rfl #[.agg #[.string a0_0, .string a0_1, .string a0_2]] rfl (by (try simp only [List.map_toArray, List.map_cons, List.map_nil]); first | done | rfl | (simp only [List.length_drop, List.length_take]; rfl)) ?_; (with_reducible refine (laws_toBlock.calls a0_0 a0_1 a0_2 t107 t108 t109 _ A10.out).mono ?_); rintro e w17 ⟨rfl, hb⟩; refine ⟨_, rfl, ?_⟩; have n0_ := Aside0.mk (blk_below (g := gb101) (o := .cells #[.string a0_0, .string a0_1, .string a0_2] 29 (0, 0)) (by (with_reducible repeat (first | refine blk_drewN ?_ _ | refine blk_drew ?_ | refine blk_alloc ?_ _)); exact BK101.out) hb); have n1_ := Aside0.mk (below_step (by repeat (first | (with_reducible first | exact HB.out | apply below_alloc | apply pw_below_drewN | apply below_drew1 | refine below_set ?_ GE101.out) | exact HB.out)) hb); clear BK101; clear HB; have BK101 := n0_; have HB := n1_; clear n0_ n1_; (try clear hb); (try clear hb2); (try clear hk); (try clear hi)) | ((with_reducible refine gate_callee (f := 20) rfl ?_); refine goesL_ (some 16) rfl rfl Try.func20 (by kernel_rfl) rfl #[.agg #[.string t107, .string t108, .string t109]] rfl (by (try simp only [List.map_toArray, List.map_cons, List.map_nil]); first | done | rfl | (simp only [List.length_drop, List.length_take]; rfl)) ?_; (with_reducible refine (impl_ValidBlock.calls k t107 t108 t109 t110 _ A11.out).mono ?_); rintro e w18 ⟨rfl, hb⟩; refine ⟨_, rfl, ?_⟩; have n0_ := Aside0.mk (blk_below (g := gb101) (o := .cells #[.string a0_0, .string a0_1, .string a0_2] 29 (0, 0)) (by (with_reducible repeat (first | refine blk_drewN ?_ _ | refine blk_drew ?_ | refine blk_alloc ?_ _)); exact BK101.out) hb); have n1_ := Aside0.mk (below_step (by repeat (first | (with_reducible first | exact HB.out | apply below_alloc | apply pw_below_drewN | apply below_drew1 | refine below_set ?_ GE101.out) | exact HB.out)) hb); clear BK101; clear HB; have BK101 := n0_; have HB := n1_; clear n0_ n1_; (try clear hb); (try clear hb2); (try clear hk); (try clear hi)))
    (try simp only [Act.put, List.setIfInBounds_toArray, List.set_cons_zero, List.set_cons_succ])
    have H := HC12.out
    clear HC12
    by_cases c19 : (t110 != t106) = true
    · rw [if_pos c19] at H
      have c19b0 : (t110 != t106) = true := c19
      (try (have c19b1 : decide (t110 = t106) = false := by simpa using c19))
      (try (have c19b2 : (t110 == t106) = false := by simpa using c19))
      (try (have c19b3 : ¬ (t110 = t106) := by simpa using c19))
      clear c19
      (first | rw [c19b0] | (simp only [i64_w, i32_w]; rw [c19b0]) | (simp only [c19b2, Bool.not_true, Bool.not_false]) | (simp only [c19b1, Bool.not_true, Bool.not_false]) | (simp only [c19b0, Bool.not_true, Bool.not_false]) | skip)
      obtain rfl := Option.some.inj H
      go_wp2
      go_ret
      exact ⟨by first | rfl | (simp [errW_none, errW_some] <;> rfl) | (simp [*, errW_none, errW_some] <;> rfl), by repeat (first | (with_reducible first | exact HB.out | apply below_alloc | apply pw_below_drewN | apply below_drew1 | refine below_set ?_ GE101.out) | exact HB.out)⟩
    · rw [if_neg c19] at H
      have c19b0 : (t110 != t106) = false := by simpa using c19
      (try (have c19b1 : decide (t110 = t106) = true := by simpa using c19))
      (try (have c19b2 : (t110 == t106) = true := by simpa using c19))
      clear c19
      (first | rw [c19b0] | (simp only [i64_w, i32_w]; rw [c19b0]) | (simp only [c19b2, Bool.not_true, Bool.not_false]) | (simp only [c19b1, Bool.not_true, Bool.not_false]) | (simp only [c19b0, Bool.not_true, Bool.not_false]) | skip)
      obtain rfl := Option.some.inj H
      go_wp2
      go_ret
      exact ⟨by first | rfl | (simp [errW_none, errW_some] <;> rfl) | (simp [*, errW_none, errW_some] <;> rfl), by repeat (first | (with_reducible first | exact HB.out | apply below_alloc | apply pw_below_drewN | apply below_drew1 | refine below_set ?_ GE101.out) | exact HB.out)⟩

end Go.Proofs.Ytckboiphlhhckaa.Q
namespace Go.Proofs.Ytckboiphlhhckaa.Q
open Go.RowKit Go.Proofs.YtckboiphlhhckaaW.PrintWords Go.Proofs.YtckboiphlhhckaaW.PrintLast Go.Proofs.YtckboiphlhhckaaW.PrintMore
attribute [local go_sem] max2_int min2_int max_two min_two max_three min_three max_four min_four   -- for this text's walks alone
set_option linter.unusedVariables false
set_option linter.unusedSimpArgs false

/-- THE ONE PURE STATEMENT of laws_FnExactValidBlock. -/
def laws_FnExactValidBlock.Pure : Prop := ∀ (x0 : S29), W29 x0 → ∃ k, laws_FnExactValidBlock.f k x0.f0 x0.f1 x0.f2 = some true
end Go.Proofs.Ytckboiphlhhckaa.Q
/- Own lemmas: one block (valid, by the reference and by the program). -/
namespace Go.Proofs.Ytckboiphlhhckaa.Q
open Go.RowKit Go.Proofs.YtckboiphlhhckaaW.PrintWords Go.Proofs.YtckboiphlhhckaaW.PrintLast Go.Proofs.YtckboiphlhhckaaW.PrintMore
def noNl : List UInt8 → Bool
  | [] => true
  | x :: l => if x = 10 then false else noNl l
theorem noNl_index : ∀ l : List UInt8, (!decide (0 ≤ Go.Lib.indexByte l 10)) = noNl l
  | [] => by decide
  | x :: l => by
    have ih := noNl_index l
    have hg := Go.Lib.indexByte_ge l 10
    unfold noNl Go.Lib.indexByte
    by_cases h : x = 10
    · simp [h]
    · have hb : (x == 10) = false := by simpa using h
      rw [if_neg (by rw [hb]; decide), if_neg h, ← ih]
      by_cases h2 : Go.Lib.indexByte l 10 = -1
      · simp [h2]
      · have hb2 : (Go.Lib.indexByte l 10 == -1) = false := by simpa using h2
        rw [if_neg (by rw [hb2]; decide)]
        simp [show 0 ≤ Go.Lib.indexByte l 10 by omega, show 0 ≤ Go.Lib.indexByte l 10 + 1 by omega]
theorem bt_get (s : ByteArray) (i : Nat) (h : i < s.data.toList.length) : (bt s (i : Int) = 10) = (s.data.toList[i] = 10) := by
  have hs : i < s.size := by rw [Array.length_toList] at h; exact h
  unfold bt
  rw [dif_pos (show (i : Int).toNat < s.size from hs)]
  have e : s[(i : Int).toNat]'hs = s.data.toList[i] := by simp; rfl
  rw [e]
  apply propext
  constructor
  · intro he; apply UInt8.toNat_inj.1; have : (s.data.toList[i].toNat : Int) = ((10 : UInt8).toNat : Int) := he; exact Int.ofNat_inj.1 this
  · intro he; rw [he]; rfl
theorem oneB_loop (x : S32) (hx : (x.f2.size : Int) ≤ 1048576) (na nb : Bool) (ha : ∀ k, 12 < k → impl_IsName.f k x.f0 = some na) (hb : ∀ k, 12 < k → impl_IsName.f k x.f1 = some nb) : ∀ (d i : Nat), i + d = x.f2.size → ∀ k, d + 20 < k → spec_l29One.l0 k [x] i = some (noNl (x.f2.data.toList.drop i) && (na && (nb && decide ((x.f2.size : Int) ≤ 400)))) := by
  have hrd : rd_T32 [x] 0 = x := rfl
  have hsz : x.f2.data.toList.length = x.f2.size := by rw [Array.length_toList]; rfl
  have g0 : (0 < (([x] : List S32).length : Int)) = True := eq_true (by simp)
  intro d
  induction d with
  | zero =>
    intro i h k hk
    obtain ⟨k, rfl⟩ : ∃ m, k = m + 1 := ⟨k - 1, by omega⟩
    have g1 : ((i : Int) < (x.f2.size : Int)) = False := eq_false (by omega)
    simp only [spec_l29One.l0, hrd, g0, g1, if_true, if_false, name_same, ha k (by omega), hb k (by omega), Option.bind_some]
    rw [List.drop_of_length_le (by omega)]
    cases na <;> cases nb <;> simp [noNl]
  | succ d ih =>
    intro i h k hk
    obtain ⟨k, rfl⟩ : ∃ m, k = m + 1 := ⟨k - 1, by omega⟩
    have g1 : ((i : Int) < (x.f2.size : Int)) = True := eq_true (by omega)
    have g2 : (0 ≤ (i : Int)) = True := eq_true (by omega)
    have g4 : wrap64 ((i : Int) + 1) = ((i + 1 : Nat) : Int) := by rw [w64 (by omega) (by omega)]; omega
    have hi : i < x.f2.data.toList.length := by omega
    simp only [spec_l29One.l0, hrd, g0, g1, g2, g4, if_true]
    rw [List.drop_eq_getElem_cons hi]
    unfold noNl
    by_cases hc : x.f2.data.toList[i] = 10
    · rw [if_pos ((bt_get x.f2 i hi).symm ▸ hc), if_pos hc]; rfl
    · rw [if_neg (by rw [bt_get x.f2 i hi]; exact hc), if_neg hc, ih (i + 1) (by omega) k (by omega)]
theorem validB_ev (x : S32) (hx : (x.f2.size : Int) ≤ 1048576) : ∃ b, ∀ k, 2000000 < k → spec_l29One.f k [x] = some b ∧ impl_ValidBlock.f k x.f0 x.f1 x.f2 = some b := by
  obtain ⟨na, ha⟩ := name_ev x.f0
  obtain ⟨nb, hb⟩ := name_ev x.f1
  refine ⟨noNl x.f2.data.toList && (na && (nb && decide ((x.f2.size : Int) ≤ 400))), fun k hk => ⟨?_, ?_⟩⟩
  · have := oneB_loop x hx na nb ha hb x.f2.size 0 (by omega) k (by omega)
    unfold spec_l29One.f
    simpa using this
  · unfold impl_ValidBlock.f strings_Contains.f
    rw [ha k (by omega), hb k (by omega)]
    have hn := noNl_index x.f2.data.toList
    cases na
    · simp
    · cases nb
      · simp
      · by_cases h4 : (x.f2.size : Int) ≤ 400
        · simp only [Option.bind_some, if_true, h4]
          rw [hn]; simp
        · simp [h4]
theorem law_ValidBlock : laws_FnExactValidBlock.Pure := by
  intro x hx
  have hM : maxLen = 9223372036854775807 := by decide
  have w1 := hx.1
  have w2 := hx.2.1
  have w3 := hx.2.2
  rw [hM] at w1 w2 w3
  obtain ⟨z, hz, hzz⟩ := szBlock_ev x.f0 x.f1 x.f2 1048576 w1 w2 w3 (by omega) (by omega)
  refine ⟨3000000, ?_⟩
  unfold laws_FnExactValidBlock.f
  rw [hz]
  simp only [Option.bind_some]
  by_cases c : z < 0
  · rw [if_pos c]
  rw [if_neg c]
  have h2 : (x.f2.size : Int) ≤ 1048576 := by
    have := hzz c
    omega
  obtain ⟨b, hb⟩ := validB_ev ⟨x.f0, x.f1, x.f2⟩ h2
  obtain ⟨e1, e2⟩ := hb 3000000 (by omega)
  simp only [laws_toBlock.f, Option.bind_some, spec_ValidBlock.f]
  simp only [] at e1 e2
  rw [e1, e2]
  simp
end Go.Proofs.Ytckboiphlhhckaa.Q
/- Own lemmas: lists of blocks are valid, by the reference and by the program. -/
namespace Go.Proofs.Ytckboiphlhhckaa.Q
open Go.RowKit Go.Proofs.YtckboiphlhhckaaW.PrintWords Go.Proofs.YtckboiphlhhckaaW.PrintLast Go.Proofs.YtckboiphlhhckaaW.PrintMore
theorem cmp_lt : ∀ l m : List UInt8, (Go.Lib.compareBytes l m < 0 ↔ Op.bytesLess l m = true) ∧ (Go.Lib.compareBytes l m = 0 ↔ l = m)
  | [], [] => by simp [Go.Lib.compareBytes, Op.bytesLess]
  | [], _ :: _ => by simp [Go.Lib.compareBytes, Op.bytesLess]
  | _ :: _, [] => by simp [Go.Lib.compareBytes, Op.bytesLess]
  | a :: x, b :: y => by
    obtain ⟨h1, h2⟩ := cmp_lt x y
    unfold Go.Lib.compareBytes Op.bytesLess
    by_cases hab : a < b
    · have hne : a ≠ b := fun e => by subst e; exact absurd hab (UInt8.lt_irrefl _)
      simp [hab, hne]
    · by_cases hba : b < a
      · have hne : a ≠ b := fun e => by subst e; exact absurd hba (UInt8.lt_irrefl _)
        simp [hab, hba, hne]
      · have he : a = b := UInt8.le_antisymm (UInt8.not_lt.1 hba) (UInt8.not_lt.1 hab)
        subst he
        simp only [hab, if_false, h1, h2]
        simp
theorem before_ev (x y : S32) : ∃ c, spec_l29Before.f [x] [y] = some (!decide (c ≥ (0 : Int))) ∧ impl_compareBlocks.f x.f0 x.f1 x.f2 y.f0 y.f1 y.f2 = some c := by
  have h1 : rd_T32 [x] 0 = x := rfl
  have h2 : rd_T32 [y] 0 = y := rfl
  unfold spec_l29Before.f impl_compareBlocks.f strings_Compare.f
  simp only [h1, h2, Option.bind_some, Go.ByteArray.toList_eq]
  rw [if_pos (by simp), if_pos (by simp)]
  obtain ⟨a1, a2⟩ := cmp_lt x.f0.data.toList y.f0.data.toList
  obtain ⟨b1, _⟩ := cmp_lt x.f1.data.toList y.f1.data.toList
  by_cases hz : Go.Lib.compareBytes x.f0.data.toList y.f0.data.toList = 0
  · refine ⟨Go.Lib.compareBytes x.f1.data.toList y.f1.data.toList, ?_, by rw [if_pos hz]⟩
    have hn : ¬ Op.bytesLess x.f0.data.toList y.f0.data.toList = true := fun e => by have := a1.2 e; omega
    rw [if_neg hn, if_pos (a2.1 hz)]
    congr 1
    cases hb : Op.bytesLess x.f1.data.toList y.f1.data.toList with
    | true => have := b1.2 hb; simp [show ¬ Go.Lib.compareBytes x.f1.data.toList y.f1.data.toList ≥ 0 by omega]
    | false =>
      have : ¬ Go.Lib.compareBytes x.f1.data.toList y.f1.data.toList < 0 := fun e => by rw [b1.1 e] at hb; cases hb
      simp [show Go.Lib.compareBytes x.f1.data.toList y.f1.data.toList ≥ 0 by omega]
  · refine ⟨Go.Lib.compareBytes x.f0.data.toList y.f0.data.toList, ?_, by rw [if_neg hz]⟩
    by_cases hl : Op.bytesLess x.f0.data.toList y.f0.data.toList = true
    · have := a1.2 hl
      rw [if_pos hl]
      simp [show ¬ Go.Lib.compareBytes x.f0.data.toList y.f0.data.toList ≥ 0 by omega]
    · have : ¬ Go.Lib.compareBytes x.f0.data.toList y.f0.data.toList < 0 := fun e => hl (a1.1 e)
      rw [if_neg hl, if_neg (fun e => hz (a2.2 e))]
      simp [show Go.Lib.compareBytes x.f0.data.toList y.f0.data.toList ≥ 0 by omega]
theorem validBS_ev (m : List S32) (hl : (m.length : Int) ≤ 1048576) (hw : ∀ y ∈ m, (y.f2.size : Int) ≤ 1048576) : ∃ b, ∀ k, 4000000 < k → spec_l29Ok.f k m = some b ∧ impl_ValidBlocks.f k m = some b := by
  have go : ∀ (d i : Nat), i + d = m.length → ∃ b, ∀ k, d + 2000001 < k → spec_l29Ok.l0 k m i = some b ∧ impl_ValidBlocks.l0 k m m (m.length : Int) i = some b := by
    intro d
    induction d with
    | zero =>
      intro i h1
      have g1 : ((i : Int) < (m.length : Int)) = False := eq_false (by omega)
      refine ⟨decide ((m.length : Int) ≤ 32), fun k hk => ?_⟩
      obtain ⟨k, rfl⟩ : ∃ m, k = m + 1 := ⟨k - 1, by omega⟩
      simp only [spec_l29Ok.l0, impl_ValidBlocks.l0, g1, if_false]
      exact ⟨trivial, trivial⟩
    | succ d ih =>
      intro i h1
      obtain ⟨b, hv⟩ := validB_ev m[i] (hw _ (List.getElem_mem _))
      have e1 : ∀ k, 2000000 < k → spec_l29One.f k [m[i]] = some b := fun k h => (hv k h).1
      have e2 : ∀ k, 2000000 < k → impl_ValidBlock.f k m[i].f0 m[i].f1 m[i].f2 = some b := fun k h => (hv k h).2
      obtain ⟨c, hk0⟩ := ih (i + 1) (by omega)
      have g1 : ((i : Int) < (m.length : Int)) = True := eq_true (by omega)
      have g2 : (0 ≤ (i : Int)) = True := eq_true (by omega)
      have g3 := rd_B m i (by omega)
      have g4 : wrap64 ((i : Int) + 1) = ((i + 1 : Nat) : Int) := by rw [w64 (by omega) (by omega)]; omega
      have gf : (false = true) = False := by simp
      cases b with
      | false =>
        refine ⟨false, fun k hk => ?_⟩
        obtain ⟨k, rfl⟩ : ∃ m, k = m + 1 := ⟨k - 1, by omega⟩
        simp only [spec_l29Ok.l0, impl_ValidBlocks.l0, g1, g2, g3, if_true, e1 k (by omega), e2 k (by omega), Option.bind_some, gf, if_false]
        exact ⟨trivial, trivial⟩
      | true =>
        by_cases hi : i = 0
        · have g5 : ((i : Int) > 0) = False := eq_false (by omega)
          refine ⟨c, fun k hk => ?_⟩
          obtain ⟨k, rfl⟩ : ∃ m, k = m + 1 := ⟨k - 1, by omega⟩
          obtain ⟨f1, f2⟩ := hk0 k (by omega)
          simp only [spec_l29Ok.l0, impl_ValidBlocks.l0, g1, g2, g3, if_true, e1 k (by omega), e2 k (by omega), Option.bind_some, g5, if_false, g4]
          exact ⟨f1, f2⟩
        · have g5 : ((i : Int) > 0) = True := eq_true (by omega)
          have g6 : wrap64 ((i : Int) - 1) = (i : Int) - 1 := w64 (by omega) (by omega)
          have g7 : (0 ≤ (i : Int) - 1) = True := eq_true (by omega)
          have g8 : ((i : Int) - 1 < (m.length : Int)) = True := eq_true (by omega)
          obtain ⟨t, t1, t2⟩ := before_ev (rd_T32 m ((i : Int) - 1)) m[i]
          by_cases ht : t ≥ 0
          · have ht1 : (t ≥ 0) = True := eq_true ht
            rw [show (!decide (t ≥ 0)) = false by simp; omega] at t1
            refine ⟨false, fun k hk => ?_⟩
            obtain ⟨k, rfl⟩ : ∃ m, k = m + 1 := ⟨k - 1, by omega⟩
            simp only [spec_l29Ok.l0, impl_ValidBlocks.l0, g1, g2, g3, if_true, e1 k (by omega), e2 k (by omega), Option.bind_some, g5, g6, g7, g8, t1, t2, ht1, gf, if_false]
            exact ⟨trivial, trivial⟩
          · have ht1 : (t ≥ 0) = False := eq_false ht
            rw [show (!decide (t ≥ 0)) = true by simp; omega] at t1
            refine ⟨c, fun k hk => ?_⟩
            obtain ⟨k, rfl⟩ : ∃ m, k = m + 1 := ⟨k - 1, by omega⟩
            obtain ⟨f1, f2⟩ := hk0 k (by omega)
            simp only [spec_l29Ok.l0, impl_ValidBlocks.l0, g1, g2, g3, if_true, e1 k (by omega), e2 k (by omega), Option.bind_some, g5, g6, g7, g8, t1, t2, ht1, if_false, g4]
            exact ⟨f1, f2⟩
  obtain ⟨b, hk0⟩ := go m.length 0 (by omega)
  exact ⟨b, fun k hk => hk0 k (by omega)⟩
end Go.Proofs.Ytckboiphlhhckaa.Q
/- Own lemmas: a block's place in a list, found by halves and one by one; a block put in. -/
namespace Go.Proofs.Ytckboiphlhhckaa.Q
open Go.RowKit Go.Proofs.YtckboiphlhhckaaW.PrintWords Go.Proofs.YtckboiphlhhckaaW.PrintLast Go.Proofs.YtckboiphlhhckaaW.PrintMore
abbrev Blk := S32
def cB : List UInt8 × List UInt8 → List UInt8 × List UInt8 → Int := lx Go.Lib.compareBytes
theorem cB_ord : Ordr cB := lx_ord cb_ord
def ckB (x : Blk) : List UInt8 × List UInt8 := (x.f0.data.toList, x.f1.data.toList)
theorem cmp_ev (a0 a1 a2 b0 b1 b2 : ByteArray) : impl_compareBlocks.f a0 a1 a2 b0 b1 b2 = some (cB (a0.data.toList, a1.data.toList) (b0.data.toList, b1.data.toList)) := by
  unfold impl_compareBlocks.f strings_Compare.f cB lx
  simp only [Option.bind_some]
  split <;> rfl
theorem bfr_ev (x y : Blk) : spec_l29Before.f [x] [y] = some (decide (cB (ckB x) (ckB y) < 0)) := by
  obtain ⟨c, h1, h2⟩ := before_ev x y
  rw [cmp_ev] at h2
  have h3 : cB (ckB x) (ckB y) = c := Option.some.inj h2
  rw [h1, ← h3]
  congr 1
  by_cases h : cB (ckB x) (ckB y) < 0
  · simp [h]
  · simp [h]; omega
theorem key_iff (x : Blk) (u v : ByteArray) : cB (ckB x) (u.data.toList, v.data.toList) = 0 ↔ x.f0.toList = u.toList ∧ x.f1.toList = v.toList := by
  rw [cB_ord.zero]
  simp only [ckB, Prod.mk.injEq, Go.ByteArray.toList_eq]
theorem bs_ev (l : List Blk) (hl : (l.length : Int) ≤ 1048576) (u v w : ByteArray) (hr : Rsg (fun x => cB (ckB x) (u.data.toList, v.data.toList)) l) :
    Ev (fun k => impl_Block_49.f k l u v w) (((plc (fun x => cB (ckB x) (u.data.toList, v.data.toList)) l : Nat) : Int), fnd (fun x => cB (ckB x) (u.data.toList, v.data.toList)) l) := by
  have hp0 := plc_le (fun x => cB (ckB x) (u.data.toList, v.data.toList)) l
  have go : ∀ (d i j : Nat), j = i + d → i ≤ plc (fun x => cB (ckB x) (u.data.toList, v.data.toList)) l → plc (fun x => cB (ckB x) (u.data.toList, v.data.toList)) l ≤ j → j ≤ l.length → Ev (fun k => impl_Block_49.l0 k l (l.length : Int) i j u v w) (((plc (fun x => cB (ckB x) (u.data.toList, v.data.toList)) l : Nat) : Int), fnd (fun x => cB (ckB x) (u.data.toList, v.data.toList)) l) := by
    intro d
    induction d using Nat.strongRecOn with
    | _ d ih =>
    intro i j h1 h2 h3 h4
    refine Ev_suc ?_
    simp only [impl_Block_49.l0]
    by_cases hd : d = 0
    · refine Ev_f (by omega) ?_
      have hp : plc (fun x => cB (ckB x) (u.data.toList, v.data.toList)) l = i := by omega
      by_cases hn : i < l.length
      · refine Ev_t (by omega) (Ev_t (by omega) (Ev_t (by omega) ?_))
        rw [rdi_Block l i hn, cmp_ev]
        refine Ev_s (Ev_n ?_)
        unfold fnd
        rw [dif_pos (by omega)]
        simp only [hp]
        rfl
      · refine Ev_f (by omega) (Ev_n ?_)
        unfold fnd
        rw [dif_neg (by omega), hp]
    · refine Ev_t (by omega) ?_
      rw [mid_ev i j (by omega)]
      obtain ⟨m, hm⟩ : ∃ m, m = (i + j) / 2 := ⟨_, rfl⟩
      rw [← hm]
      have hm1 : m < l.length := by omega
      refine Ev_t (by omega) (Ev_t (by omega) ?_)
      rw [rdi_Block l m hm1, cmp_ev]
      refine Ev_s ?_
      by_cases hc : cB (l[m].f0.data.toList, l[m].f1.data.toList) (u.data.toList, v.data.toList) < 0
      · refine Ev_t hc ?_
        rw [wr64s m (by omega)]
        refine ih (j - (m + 1)) (by omega) (m + 1) j (by omega) ?_ h3 h4
        rcases Nat.lt_or_ge m (plc (fun x => cB (ckB x) (u.data.toList, v.data.toList)) l) with g | g
        · exact g
        · rcases Nat.lt_or_eq_of_le g with g | g
          · have hgt : 0 < cB (ckB l[m]) (u.data.toList, v.data.toList) := hr.gt m hm1 g
            have hc' : cB (ckB l[m]) (u.data.toList, v.data.toList) < 0 := hc
            omega
          · have := plc_at (fun x => cB (ckB x) (u.data.toList, v.data.toList)) l (by omega)
            simp only [g] at this
            have hc' : cB (ckB l[m]) (u.data.toList, v.data.toList) < 0 := hc
            omega
      · refine Ev_f hc ?_
        refine ih (m - i) (by omega) i m (by omega) h2 ?_ (by omega)
        rcases Nat.lt_or_ge m (plc (fun x => cB (ckB x) (u.data.toList, v.data.toList)) l) with g | g
        · exact absurd (plc_lt _ l m hm1 g) hc
        · exact g
  simp only [impl_Block_49.f]
  exact go l.length 0 l.length (by omega) (by omega) hp0 (Nat.le_refl _)
theorem find_ev (l : List Blk) (hl : (l.length : Int) ≤ 1048576) (u v : ByteArray) (hr : Rsg (fun x => cB (ckB x) (u.data.toList, v.data.toList)) l) :
    Ev (fun k => spec_l29Find.f k l u v) (if fnd (fun x => cB (ckB x) (u.data.toList, v.data.toList)) l = true then ((plc (fun x => cB (ckB x) (u.data.toList, v.data.toList)) l : Nat) : Int) else -1) := by
  obtain ⟨c, hc⟩ : ∃ c, c = (fun x => cB (ckB x) (u.data.toList, v.data.toList)) := ⟨_, rfl⟩
  rw [← hc] at hr ⊢
  have key : ∀ x, c x = 0 ↔ x.f0.toList = u.toList ∧ x.f1.toList = v.toList := fun x => by rw [hc]; exact key_iff x u v
  have go : ∀ (d i : Nat), i + d = l.length → (∀ (j : Nat) (hj : j < l.length), j < i → c l[j] ≠ 0) → Ev (fun k => spec_l29Find.l0 k l u v i) (if fnd c l = true then ((plc c l : Nat) : Int) else -1) := by
    intro d
    induction d with
    | zero =>
      intro i h1 h2
      refine Ev_suc ?_
      simp only [spec_l29Find.l0]
      refine Ev_f (by omega) (Ev_n ?_)
      rw [if_neg]
      intro h
      obtain ⟨hp, h0⟩ := fnd_t h
      exact h2 _ hp (by omega) h0
    | succ d ih =>
      intro i h1 h2
      refine Ev_suc ?_
      simp only [spec_l29Find.l0]
      refine Ev_t (by omega) (Ev_t (by omega) ?_)
      rw [rdi_Block l i (by omega), wr64s i (by omega)]
      have more : c l[i] ≠ 0 → Ev (fun k => spec_l29Find.l0 k l u v ((i + 1 : Nat) : Int)) (if fnd c l = true then ((plc c l : Nat) : Int) else -1) := fun hn =>
        ih (i + 1) (by omega) (fun j hj hji => by
          rcases Nat.lt_or_eq_of_le (Nat.le_of_lt_succ hji) with g | g
          · exact h2 j hj g
          · subst g; exact hn)
      by_cases e0 : l[i].f0.toList = u.toList
      · refine Ev_t e0 ?_
        by_cases e1 : l[i].f1.toList = v.toList
        · refine Ev_t e1 (Ev_n ?_)
          have hz := (key l[i]).2 ⟨e0, e1⟩
          have hp : plc c l = i := by
            rcases Nat.lt_trichotomy i (plc c l) with g | g | g
            · have := plc_lt c l i (by omega) g; omega
            · exact g.symm
            · have := hr.gt i (by omega) g; omega
          have hf : fnd c l = true := by
            unfold fnd
            rw [dif_pos (by omega)]
            simp only [hp, hz, decide_true]
          rw [if_pos hf, hp]
        · exact Ev_f e1 (more (fun h => e1 ((key _).1 h).2))
      · exact Ev_f e0 (more (fun h => e0 ((key _).1 h).1))
  simp only [spec_l29Find.f]
  exact go l.length 0 (by omega) (fun j _ hj => by omega)
/-- What a rising list is with a block put in. -/
def putB (l : List Blk) (b : Blk) : List Blk :=
  if fnd (fun x => cB (ckB x) (ckB b)) l = true then l.take (plc (fun x => cB (ckB x) (ckB b)) l) ++ b :: l.drop (plc (fun x => cB (ckB x) (ckB b)) l + 1)
  else l.take (plc (fun x => cB (ckB x) (ckB b)) l) ++ b :: l.drop (plc (fun x => cB (ckB x) (ckB b)) l)
theorem put_ev (l : List Blk) (hl : (l.length : Int) ≤ 1048576) (b : Blk) (hr : Rsg (fun x => cB (ckB x) (ckB b)) l) : Ev (fun k => spec_l29Put.f k l b.f0 b.f1 b.f2) (putB l b) := by
  obtain ⟨c, hc⟩ : ∃ c, c = (fun x => cB (ckB x) (ckB b)) := ⟨_, rfl⟩
  unfold putB
  rw [← hc] at hr ⊢
  have key : ∀ x, c x = 0 ↔ x.f0.toList = b.f0.toList ∧ x.f1.toList = b.f1.toList := fun x => by rw [hc]; exact key_iff x b.f0 b.f1
  have hb : (⟨b.f0, b.f1, b.f2⟩ : Blk) = b := rfl
  have cEq : ∀ y, cB (ckB y) (ckB b) = c y := fun y => by rw [hc]
  have two : ∀ (d i : Nat) (out : List Blk), i + d = l.length → plc c l < i → out.length ≤ i + 1 → Ev (fun k => spec_l29Put.l0 k l out true i b.f0 b.f1 b.f2) (out ++ l.drop i) := by
    intro d
    induction d with
    | zero =>
      intro i out h1 h2 h3
      refine Ev_suc ?_
      simp only [spec_l29Put.l0]
      rw [List.drop_of_length_le (by omega), List.append_nil]
      exact Ev_f (by omega) (Ev_t (by trivial) (Ev_n rfl))
    | succ d ih =>
      intro i out h1 h2 h3
      refine Ev_suc ?_
      simp only [spec_l29Put.l0]
      refine Ev_t (by omega) (Ev_t (by trivial) (Ev_suc ?_))
      simp only [spec_l29Put.j1]
      refine Ev_f (by decide) (Ev_t (by omega) (Ev_t (by omega) ?_))
      rw [rdi_Block l i (by omega), wr64s i (by omega), List.drop_eq_getElem_cons (show i < l.length by omega)]
      have hn : c l[i] ≠ 0 := by have := hr.gt i (by omega) h2; omega
      have nxt := ih (i + 1) (out ++ [l[i]]) (by omega) (by omega) (by simp; omega)
      rw [List.append_assoc, List.singleton_append] at nxt
      by_cases e0 : l[i].f0.toList = b.f0.toList
      · refine Ev_t e0 (Ev_f (fun e1 => hn ((key _).2 ⟨e0, e1⟩)) (Ev_t (by omega) nxt))
      · exact Ev_f e0 (Ev_t (by omega) nxt)
  have one : ∀ (d i : Nat), i + d = plc c l → Ev (fun k => spec_l29Put.l0 k l (l.take i) false i b.f0 b.f1 b.f2) (if fnd c l = true then l.take (plc c l) ++ b :: l.drop (plc c l + 1) else l.take (plc c l) ++ b :: l.drop (plc c l)) := by
    have hp0 := plc_le c l
    intro d
    induction d with
    | zero =>
      intro i h1
      have h1' : i = plc c l := by omega
      subst h1'
      refine Ev_suc ?_
      simp only [spec_l29Put.l0]
      have hlen : (l.take (plc c l)).length = plc c l := by simp; omega
      by_cases hn : plc c l < l.length
      · refine Ev_t (by omega) (Ev_f (by decide) (Ev_t (by omega) ?_))
        rw [rdi_Block l _ hn, hb, bfr_ev]
        refine Ev_s (Ev_suc ?_)
        have h0 := plc_at c l hn
        rw [cEq]
        simp only [spec_l29Put.j1]
        refine Ev_t (by simpa using h0) (Ev_t (by omega) (Ev_s (Ev_t (by omega) (Ev_t (by omega) ?_))))
        rw [rdi_Block l _ hn, hb, wr64s _ (by omega)]
        have more : ∀ out : List Blk, out.length ≤ plc c l + 2 → Ev (fun k => spec_l29Put.l0 k l out true ((plc c l + 1 : Nat) : Int) b.f0 b.f1 b.f2) (out ++ l.drop (plc c l + 1)) := fun out ho =>
          two (l.length - (plc c l + 1)) (plc c l + 1) out (by omega) (by omega) ho
        by_cases hz : c l[plc c l] = 0
        · have hf : fnd c l = true := by unfold fnd; rw [dif_pos hn]; simpa using hz
          rw [if_pos hf]
          obtain ⟨e0, e1⟩ := (key _).1 hz
          refine Ev_t e0 (Ev_t e1 ?_)
          refine Ev_at (more _ (by simp; omega)) ?_
          rw [List.append_assoc, List.singleton_append]
        · have hf : ¬ fnd c l = true := by unfold fnd; rw [dif_pos hn]; simpa using hz
          rw [if_neg hf]
          have last := more (l.take (plc c l) ++ [b] ++ [l[plc c l]]) (by simp; omega)
          have last' : Ev (fun k => spec_l29Put.l0 k l (l.take (plc c l) ++ [b] ++ [(⟨l[plc c l].f0, l[plc c l].f1, l[plc c l].f2⟩ : Blk)]) true ((plc c l + 1 : Nat) : Int) b.f0 b.f1 b.f2) (l.take (plc c l) ++ b :: l.drop (plc c l)) := by
            refine Ev_at last ?_
            rw [List.append_assoc, List.append_assoc, List.singleton_append, List.singleton_append, List.getElem_cons_drop]
          by_cases e0 : l[plc c l].f0.toList = b.f0.toList
          · exact Ev_t e0 (Ev_f (fun e1 => hz ((key _).2 ⟨e0, e1⟩)) (Ev_t (by simp; omega) last'))
          · exact Ev_f e0 (Ev_t (by simp; omega) last')
      · have hf : ¬ fnd c l = true := by unfold fnd; rw [dif_neg hn]; decide
        rw [if_neg hf, List.drop_of_length_le (by omega)]
        exact Ev_f (by omega) (Ev_f (by decide) (Ev_t (by omega) (Ev_n rfl)))
    | succ d ih =>
      intro i h1
      have hi : i < l.length := by omega
      have hlen : (l.take i).length = i := by simp; omega
      refine Ev_suc ?_
      simp only [spec_l29Put.l0]
      refine Ev_t (by omega) (Ev_f (by decide) (Ev_t (by omega) ?_))
      rw [rdi_Block l i hi, hb, bfr_ev]
      refine Ev_s (Ev_suc ?_)
      have h0 := plc_lt c l i hi (by omega)
      rw [cEq]
      simp only [spec_l29Put.j1]
      refine Ev_f (by simpa using h0) (Ev_t (by omega) (Ev_t (by omega) ?_))
      rw [rdi_Block l i hi, wr64s i (by omega)]
      have nxt := ih (i + 1) (by omega)
      rw [List.take_succ_eq_append_getElem hi] at nxt
      by_cases e0 : l[i].f0.toList = b.f0.toList
      · exact Ev_t e0 (Ev_f (fun e1 => by have := (key _).2 ⟨e0, e1⟩; omega) (Ev_t (by omega) nxt))
      · exact Ev_f e0 (Ev_t (by omega) nxt)
  simp only [spec_l29Put.f]
  exact one (plc c l) 0 (by omega)
end Go.Proofs.Ytckboiphlhhckaa.Q
namespace Go.Proofs.Ytckboiphlhhckaa.Q
open Go.RowKit Go.Proofs.YtckboiphlhhckaaW.PrintWords Go.Proofs.YtckboiphlhhckaaW.PrintLast Go.Proofs.YtckboiphlhhckaaW.PrintMore
attribute [local go_sem] max2_int min2_int max_two min_two max_three min_three max_four min_four   -- for this text's walks alone
set_option linter.unusedVariables false
set_option linter.unusedSimpArgs false

/-! ### spec_BlockNamed: function 23 -/
def spec_BlockNamed.f (k : Nat) (l0 : List (S32)) (a1 : ByteArray) (a2 : ByteArray) : Option (ByteArray × Int) := (spec_l29Ok.f k l0).bind fun t101 => (if t101 = true then ((spec_l29Find.f k l0 a1 a2).bind fun t102 => (if t102 < 0 then (some ((⟨#[]⟩ : ByteArray), 3)) else (if 0 ≤ t102 then (if t102 < (l0.length : Int) then (some ((rd_T32 l0 t102).f2, 0)) else (none)) else (none)))) else (some ((⟨#[]⟩ : ByteArray), 1)))
theorem spec_BlockNamed.mono : ∀ a0 a1 a2 k, LeO (spec_BlockNamed.f k a0 a1 a2) (spec_BlockNamed.f (k + 1) a0 a1 a2) := by
  intro a0 a1 a2 k
  unfold spec_BlockNamed.f
  repeat' first
      | (with_reducible exact spec_l29Find.mono _ _ _ _)
      | (with_reducible exact spec_l29Ok.mono _ _)
      | (with_reducible exact LeO.refl _)
      | (with_reducible exact LeO.none _)
      | (with_reducible refine LeO.ite ?_ ?_)
      | (with_reducible refine LeO.bind ?_ (fun _ => ?_))
      | exact spec_l29Find.mono _ _ _ _
      | exact spec_l29Ok.mono _ _
      | exact LeO.none _
      | refine LeO.ite ?_ ?_
      | refine LeO.bind ?_ (fun _ => ?_)
set_option maxHeartbeats 8000000 in
set_option maxRecDepth 100000 in
theorem spec_BlockNamed.calls (k : Nat) (A0 : Option Addr) (c0 : Nat) (l0 : List (S32)) (a1 : ByteArray) (a2 : ByteArray) (r1 : ByteArray) (r2 : Int) (w : World) (hr0 : Kd.C k32 w A0 l0.length l0) (hc0 : l0.length ≤ c0) (h : spec_BlockNamed.f k l0 a1 a2 = some (r1, r2)) :
    Calls Try.prog 23 #[.slice A0 l0.length c0, .string a1, .string a2] w fun e w' => e = .returned (.tuple #[.string r1, .int .i64 r2]) ∧ Drawn0 w w' := by
  have HR0 := Aside0.mk hr0
  have HC0 := Aside0.mk hc0
  clear hr0 hc0
  have H : ((spec_l29Ok.f k l0).bind fun t101 => (if t101 = true then ((spec_l29Find.f k l0 a1 a2).bind fun t102 => (if t102 < 0 then (some ((⟨#[]⟩ : ByteArray), 3)) else (if 0 ≤ t102 then (if t102 < (l0.length : Int) then (some ((rd_T32 l0 t102).f2, 0)) else (none)) else (none)))) else (some ((⟨#[]⟩ : ByteArray), 1)))) = some (r1, r2) := h
  clear h
  replace H := Option.bind_eq_some_iff.mp H
  obtain ⟨t101, A40, H⟩ := H
  replace H : (if t101 = true then ((spec_l29Find.f k l0 a1 a2).bind fun t102 => (if t102 < 0 then (some ((⟨#[]⟩ : ByteArray), 3)) else (if 0 ≤ t102 then (if t102 < (l0.length : Int) then (some ((rd_T32 l0 t102).f2, 0)) else (none)) else (none)))) else (some ((⟨#[]⟩ : ByteArray), 1))) = some (r1, r2) := H
  have A4 := Aside0.mk A40
  clear A40
  have HC5 := Aside0.mk H
  clear H
  go_enter Try.func23, Try.ntmps23
  go_upto_if 11 with (first | ((with_reducible refine gate_callee (f := 46) rfl ?_); refine goesL_ (some 10) rfl rfl Try.func46 (by kernel_rfl) rfl #[.slice A0 l0.length c0] rfl (by (try simp only [List.map_toArray, List.map_cons, List.map_nil]); first | done | rfl | (simp only [List.length_drop, List.length_take]; rfl)) ?_; (with_reducible refine (spec_l29Ok.calls k _ _ l0 t101 _ ?side1 ?side2 A4.out).mono ?_); (case side1 => repeat (first | exact HR0.out | (with_reducible refine Kd.C_alloc ?_ _) | (with_reducible refine Kd.C_drewN ?_ _) | (with_reducible refine Kd.C_drew ?_))); (case side2 => exact HC0.out); rintro e w' ⟨rfl, ⟨nd, rfl⟩⟩; refine ⟨_, rfl, ?_⟩))
  (try simp only [Act.put, List.setIfInBounds_toArray, List.set_cons_zero, List.set_cons_succ])
  have H := HC5.out
  clear HC5
  by_cases c6 : t101 = true
  · subst c6
    have H1 : ((spec_l29Find.f k l0 a1 a2).bind fun t102 => (if t102 < 0 then (some ((⟨#[]⟩ : ByteArray), 3)) else (if 0 ≤ t102 then (if t102 < (l0.length : Int) then (some ((rd_T32 l0 t102).f2, 0)) else (none)) else (none)))) = some (r1, r2) := by rw [if_pos rfl] at H; exact H
    clear H
    have H := H1
    clear H1
    replace H := Option.bind_eq_some_iff.mp H
    obtain ⟨t102, A70, H⟩ := H
    replace H : (if t102 < 0 then (some ((⟨#[]⟩ : ByteArray), 3)) else (if 0 ≤ t102 then (if t102 < (l0.length : Int) then (some ((rd_T32 l0 t102).f2, 0)) else (none)) else (none))) = some (r1, r2) := H
    have A7 := Aside0.mk A70
    clear A70
    have HC8 := Aside0.mk H
    clear H
    go_upto_if 17 with (first | ((with_reducible refine gate_callee (f := 48) rfl ?_); refine goesL_ (some 15) rfl rfl Try.func48 (by kernel_rfl) rfl #[.slice A0 l0.length c0, .string a1, .string a2] rfl (by (try simp only [List.map_toArray, List.map_cons, List.map_nil]); first | done | rfl | (simp only [List.length_drop, List.length_take]; rfl)) ?_; (with_reducible refine (spec_l29Find.calls k _ _ l0 a1 a2 t102 _ ?side1 ?side2 A7.out).mono ?_); (case side1 => repeat (first | exact HR0.out | (with_reducible refine Kd.C_alloc ?_ _) | (with_reducible refine Kd.C_drewN ?_ _) | (with_reducible refine Kd.C_drew ?_))); (case side2 => exact HC0.out); rintro e w' ⟨rfl, ⟨nd, rfl⟩⟩; refine ⟨_, rfl, ?_⟩))
    (try simp only [Act.put, List.setIfInBounds_toArray, List.set_cons_zero, List.set_cons_succ])
    have H := HC8.out
    clear HC8
    by_cases c9 : t102 < 0
    · rw [if_pos c9] at H
      have c9b0 : decide (t102 < 0) = true := decide_eq_true c9
      clear c9
      (first | rw [c9b0] | (simp only [i64_w, i32_w]; rw [c9b0]) | (simp only [c9b2, Bool.not_true, Bool.not_false]) | (simp only [c9b1, Bool.not_true, Bool.not_false]) | (simp only [c9b0, Bool.not_true, Bool.not_false]) | skip)
      simp only [Option.some.injEq, Prod.mk.injEq] at H
      obtain ⟨rfl, rfl⟩ := H
      go_wp2
      go_ret2
      exact ⟨by first | rfl | (simp; done) | (simp [*]; done), by repeat (first | exact Drawn0.refl _ | apply Drawn0.step)⟩
    · rw [if_neg c9] at H
      have c9b0 : decide (t102 < 0) = false := decide_eq_false c9
      clear c9
      (first | rw [c9b0] | (simp only [i64_w, i32_w]; rw [c9b0]) | (simp only [c9b2, Bool.not_true, Bool.not_false]) | (simp only [c9b1, Bool.not_true, Bool.not_false]) | (simp only [c9b0, Bool.not_true, Bool.not_false]) | skip)
      by_cases c10 : 0 ≤ t102
      · rw [if_pos c10] at H
        have c10b0 : decide (0 ≤ t102) = true := decide_eq_true c10
        clear c10
        by_cases c11 : t102 < (l0.length : Int)
        · rw [if_pos c11] at H
          have c11b0 : decide (t102 < (l0.length : Int)) = true := decide_eq_true c11
          clear c11
          simp only [Option.some.injEq, Prod.mk.injEq] at H
          obtain ⟨rfl, rfl⟩ := H
          have p103 : 0 ≤ (t102 : Int) := of_decide_eq_true (by first | (with_reducible assumption) | assumption)
          have q103 : t102 < (l0.length : Int) := of_decide_eq_true (by first | (with_reducible assumption) | assumption)
          obtain ⟨ad103, e103, hx103_0, hx103_1, hx103_2⟩ := at_T32 HR0.out t102 p103 q103
          cases e103
          replace p103 := eq_true p103
          replace q103 := eq_true q103
          go_wp2
          go_ret2
          exact ⟨by first | rfl | (simp; done) | (simp [*]; done), by repeat (first | exact Drawn0.refl _ | apply Drawn0.step)⟩
        · rw [if_neg c11] at H
          exact absurd H (by simp)
      · rw [if_neg c10] at H
        exact absurd H (by simp)
  · replace c6 := Bool.eq_false_iff.mpr c6
    subst c6
    have H1 : (some ((⟨#[]⟩ : ByteArray), 1)) = some (r1, r2) := by rw [if_neg (show ¬ (false = true) by decide)] at H; exact H
    clear H
    have H := H1
    clear H1
    simp only [Option.some.injEq, Prod.mk.injEq] at H
    obtain ⟨rfl, rfl⟩ := H
    go_wp2
    go_ret2
    exact ⟨by first | rfl | (simp; done) | (simp [*]; done), by repeat (first | exact Drawn0.refl _ | apply Drawn0.step)⟩

end Go.Proofs.Ytckboiphlhhckaa.Q
namespace Go.Proofs.Ytckboiphlhhckaa.Q
open Go.RowKit Go.Proofs.YtckboiphlhhckaaW.PrintWords Go.Proofs.YtckboiphlhhckaaW.PrintLast Go.Proofs.YtckboiphlhhckaaW.PrintMore
attribute [local go_sem] max2_int min2_int max_two min_two max_three min_three max_four min_four   -- for this text's walks alone
set_option linter.unusedVariables false
set_option linter.unusedSimpArgs false

/-! ### impl_BlockNamed: function 24 -/
def impl_BlockNamed.f (k : Nat) (l0 : List (S32)) (a1 : ByteArray) (a2 : ByteArray) : Option (ByteArray × Int) := (impl_ValidBlocks.f k l0).bind fun t101 => (if t101 = true then ((impl_Block_49.f k l0 a1 a2 (⟨#[]⟩ : ByteArray)).bind fun bt102 => (if bt102.2 = true then (if 0 ≤ bt102.1 then (if bt102.1 < (l0.length : Int) then (some ((rd_T32 l0 bt102.1).f2, 0)) else (none)) else (none)) else (some ((⟨#[]⟩ : ByteArray), 3)))) else (some ((⟨#[]⟩ : ByteArray), 1)))
theorem impl_BlockNamed.mono : ∀ a0 a1 a2 k, LeO (impl_BlockNamed.f k a0 a1 a2) (impl_BlockNamed.f (k + 1) a0 a1 a2) := by
  intro a0 a1 a2 k
  unfold impl_BlockNamed.f
  repeat' first
      | (with_reducible exact impl_Block_49.mono _ _ _ _ _)
      | (with_reducible exact impl_ValidBlocks.mono _ _)
      | (with_reducible exact LeO.refl _)
      | (with_reducible exact LeO.none _)
      | (with_reducible refine LeO.ite ?_ ?_)
      | (with_reducible refine LeO.bind ?_ (fun _ => ?_))
      | exact impl_Block_49.mono _ _ _ _ _
      | exact impl_ValidBlocks.mono _ _
      | exact LeO.none _
      | refine LeO.ite ?_ ?_
      | refine LeO.bind ?_ (fun _ => ?_)
set_option maxHeartbeats 8000000 in
set_option maxRecDepth 100000 in
theorem impl_BlockNamed.calls (k : Nat) (A0 : Option Addr) (c0 : Nat) (l0 : List (S32)) (a1 : ByteArray) (a2 : ByteArray) (r1 : ByteArray) (r2 : Int) (w : World) (hr0 : Kd.C k32 w A0 l0.length l0) (hc0 : l0.length ≤ c0) (h : impl_BlockNamed.f k l0 a1 a2 = some (r1, r2)) :
    Calls Try.prog 24 #[.slice A0 l0.length c0, .string a1, .string a2] w fun e w' => e = .returned (.tuple #[.string r1, .int .i64 r2]) ∧ Below w.heap.size w w' := by
  have hu32 := Try.underlying32
  have HR0 := Aside0.mk hr0
  have HC0 := Aside0.mk hc0
  clear hr0 hc0
  have HB := Aside0.mk (Below.refl w.heap.size w)
  have H : ((impl_ValidBlocks.f k l0).bind fun t101 => (if t101 = true then ((impl_Block_49.f k l0 a1 a2 (⟨#[]⟩ : ByteArray)).bind fun bt102 => (if bt102.2 = true then (if 0 ≤ bt102.1 then (if bt102.1 < (l0.length : Int) then (some ((rd_T32 l0 bt102.1).f2, 0)) else (none)) else (none)) else (some ((⟨#[]⟩ : ByteArray), 3)))) else (some ((⟨#[]⟩ : ByteArray), 1)))) = some (r1, r2) := h
  clear h
  replace H := Option.bind_eq_some_iff.mp H
  obtain ⟨t101, A40, H⟩ := H
  replace H : (if t101 = true then ((impl_Block_49.f k l0 a1 a2 (⟨#[]⟩ : ByteArray)).bind fun bt102 => (if bt102.2 = true then (if 0 ≤ bt102.1 then (if bt102.1 < (l0.length : Int) then (some ((rd_T32 l0 bt102.1).f2, 0)) else (none)) else (none)) else (some ((⟨#[]⟩ : ByteArray), 3)))) else (some ((⟨#[]⟩ : ByteArray), 1))) = some (r1, r2) := H
  have A4 := Aside0.mk A40
  clear A40
  have HC5 := Aside0.mk H
  clear H
  go_enter Try.func24, Try.ntmps24
  go_upto_if 12 with (first | ((with_reducible refine gate_callee (f := 22) rfl ?_); refine goesL_ (some 11) rfl rfl Try.func22 (by kernel_rfl) rfl #[.slice A0 l0.length c0] rfl (by (try simp only [List.map_toArray, List.map_cons, List.map_nil]); first | done | rfl | (simp only [List.length_drop, List.length_take]; rfl)) ?_; (with_reducible refine (impl_ValidBlocks.calls k _ _ l0 t101 _ ?side1 ?side2 A4.out).mono ?_); (case side1 => repeat (first | exact HR0.out | (with_reducible refine Kd.C_alloc ?_ _) | (with_reducible refine Kd.C_drewN ?_ _) | (with_reducible refine Kd.C_drew ?_))); (case side2 => exact HC0.out); rintro e w6 ⟨rfl, hb⟩; refine ⟨_, rfl, ?_⟩; have n0_ := Aside0.mk (below_step (by repeat (first | (with_reducible first | exact HB.out | apply below_alloc | apply pw_below_drewN | apply below_drew1) | exact HB.out)) hb); clear HB; have HB := n0_; clear n0_; (try clear hb); (try clear hb2); (try clear hk); (try clear hi)))
  (try simp only [Act.put, List.setIfInBounds_toArray, List.set_cons_zero, List.set_cons_succ])
  have H := HC5.out
  clear HC5
  by_cases c7 : t101 = true
  · subst c7
    have H1 : ((impl_Block_49.f k l0 a1 a2 (⟨#[]⟩ : ByteArray)).bind fun bt102 => (if bt102.2 = true then (if 0 ≤ bt102.1 then (if bt102.1 < (l0.length : Int) then (some ((rd_T32 l0 bt102.1).f2, 0)) else (none)) else (none)) else (some ((⟨#[]⟩ : ByteArray), 3)))) = some (r1, r2) := by rw [if_pos rfl] at H; exact H
    clear H
    have H := H1
    clear H1
    replace H := Option.bind_eq_some_iff.mp H
    obtain ⟨⟨t102, t103⟩, A80, H⟩ := H
    replace H : (if t103 = true then (if 0 ≤ t102 then (if t102 < (l0.length : Int) then (some ((rd_T32 l0 t102).f2, 0)) else (none)) else (none)) else (some ((⟨#[]⟩ : ByteArray), 3))) = some (r1, r2) := H
    have A8 := Aside0.mk A80
    clear A80
    have HC9 := Aside0.mk H
    clear H
    go_upto_if 22 with (first | ((with_reducible refine gate_callee (f := 49) rfl ?_); refine goesL_ (some 18) rfl rfl Try.func49 (by kernel_rfl) rfl #[.slice A0 l0.length c0, .agg #[.string a1, .string a2, .string (⟨#[]⟩ : ByteArray)], .func (.func 47) #[] #[]] rfl (by (try simp only [List.map_toArray, List.map_cons, List.map_nil]); first | done | rfl | (simp only [List.length_drop, List.length_take]; rfl)) ?_; (with_reducible refine (impl_Block_49.calls k _ _ l0 a1 a2 (⟨#[]⟩ : ByteArray)  t102 t103 _ ?side1 ?side2 A8.out).mono ?_); (case side1 => repeat (first | exact (Kd.C_below HR0.out (by repeat (first | (with_reducible first | exact HB.out | apply below_alloc | apply pw_below_drewN | apply below_drew1) | exact HB.out))) | (with_reducible refine Kd.C_alloc ?_ _) | (with_reducible refine Kd.C_drewN ?_ _) | (with_reducible refine Kd.C_drew ?_))); (case side2 => exact HC0.out); rintro e w10 ⟨rfl, hb⟩; refine ⟨_, rfl, ?_⟩; have n0_ := Aside0.mk (below_step (by repeat (first | (with_reducible first | exact HB.out | apply below_alloc | apply pw_below_drewN | apply below_drew1) | exact HB.out)) hb); clear HB; have HB := n0_; clear n0_; (try clear hb); (try clear hb2); (try clear hk); (try clear hi)))
    (try simp only [Act.put, List.setIfInBounds_toArray, List.set_cons_zero, List.set_cons_succ])
    have H := HC9.out
    clear HC9
    by_cases c11 : t103 = true
    · subst c11
      have H1 : (if 0 ≤ t102 then (if t102 < (l0.length : Int) then (some ((rd_T32 l0 t102).f2, 0)) else (none)) else (none)) = some (r1, r2) := by rw [if_pos rfl] at H; exact H
      clear H
      have H := H1
      clear H1
      by_cases c12 : 0 ≤ t102
      · rw [if_pos c12] at H
        have c12b0 : decide (0 ≤ t102) = true := decide_eq_true c12
        clear c12
        (first | rw [c12b0] | (simp only [i64_w, i32_w]; rw [c12b0]) | (simp only [c12b2, Bool.not_true, Bool.not_false]) | (simp only [c12b1, Bool.not_true, Bool.not_false]) | (simp only [c12b0, Bool.not_true, Bool.not_false]) | skip)
        by_cases c13 : t102 < (l0.length : Int)
        · rw [if_pos c13] at H
          have c13b0 : decide (t102 < (l0.length : Int)) = true := decide_eq_true c13
          clear c13
          simp only [Option.some.injEq, Prod.mk.injEq] at H
          obtain ⟨rfl, rfl⟩ := H
          have p104 : 0 ≤ (t102 : Int) := of_decide_eq_true (by first | (with_reducible assumption) | assumption)
          have q104 : t102 < (l0.length : Int) := of_decide_eq_true (by first | (with_reducible assumption) | assumption)
          obtain ⟨ad104, e104, hx104_0, hx104_1, hx104_2⟩ := at_T32 HR0.out t102 p104 q104
          cases e104
          replace hx104_0 := (HB.out.cell (World.block_lt_of_cell? w _ hx104_0)).trans hx104_0
          replace hx104_1 := (HB.out.cell (World.block_lt_of_cell? w _ hx104_1)).trans hx104_1
          replace hx104_2 := (HB.out.cell (World.block_lt_of_cell? w _ hx104_2)).trans hx104_2
          replace p104 := eq_true p104
          replace q104 := eq_true q104
          go_wp2
          go_ret2
          exact ⟨by first | rfl | (simp [errW_none, errW_some] <;> rfl) | (simp [*, errW_none, errW_some] <;> rfl), by repeat (first | (with_reducible first | exact HB.out | apply below_alloc | apply pw_below_drewN | apply below_drew1) | exact HB.out)⟩
        · rw [if_neg c13] at H
          exact absurd H (by simp)
      · rw [if_neg c12] at H
        exact absurd H (by simp)
    · replace c11 := Bool.eq_false_iff.mpr c11
      subst c11
      have H1 : (some ((⟨#[]⟩ : ByteArray), 3)) = some (r1, r2) := by rw [if_neg (show ¬ (false = true) by decide)] at H; exact H
      clear H
      have H := H1
      clear H1
      simp only [Option.some.injEq, Prod.mk.injEq] at H
      obtain ⟨rfl, rfl⟩ := H
      go_wp2
      go_ret2
      exact ⟨by first | rfl | (simp [errW_none, errW_some] <;> rfl) | (simp [*, errW_none, errW_some] <;> rfl), by repeat (first | (with_reducible first | exact HB.out | apply below_alloc | apply pw_below_drewN | apply below_drew1) | exact HB.out)⟩
  · replace c7 := Bool.eq_false_iff.mpr c7
    subst c7
    have H1 : (some ((⟨#[]⟩ : ByteArray), 1)) = some (r1, r2) := by rw [if_neg (show ¬ (false = true) by decide)] at H; exact H
    clear H
    have H := H1
    clear H1
    simp only [Option.some.injEq, Prod.mk.injEq] at H
    obtain ⟨rfl, rfl⟩ := H
    go_wp2
    go_ret2
    exact ⟨by first | rfl | (simp [errW_none, errW_some] <;> rfl) | (simp [*, errW_none, errW_some] <;> rfl), by repeat (first | (with_reducible first | exact HB.out | apply below_alloc | apply pw_below_drewN | apply below_drew1) | exact HB.out)⟩

end Go.Proofs.Ytckboiphlhhckaa.Q
namespace Go.Proofs.Ytckboiphlhhckaa.Q
open Go.RowKit Go.Proofs.YtckboiphlhhckaaW.PrintWords Go.Proofs.YtckboiphlhhckaaW.PrintLast Go.Proofs.YtckboiphlhhckaaW.PrintMore
attribute [local go_sem] max2_int min2_int max_two min_two max_three min_three max_four min_four   -- for this text's walks alone
set_option linter.unusedVariables false
set_option linter.unusedSimpArgs false

/-! ### spec_PutBlock: function 34 -/
def spec_PutBlock.j0 : Nat → List (S32) → Bool → ByteArray → ByteArray → ByteArray → Option ((List (S32)) × Int)
  | 0, _, _, _, _, _ => none
  | k + 1, x0, x13, x102000, x102001, x102002 => if x13 = true then (some (([] : List (S32)), 1)) else ((spec_l29Put.f k x0 x102000 x102001 x102002).bind fun t104 => (if (t104.length : Int) > 32 then (some (([] : List (S32)), 5)) else (some (t104, 0))))
def spec_PutBlock.f (k : Nat) (l0 : List (S32)) (a1_0 : ByteArray) (a1_1 : ByteArray) (a1_2 : ByteArray) : Option ((List (S32)) × Int) := (spec_l29Ok.f k l0).bind fun t102 => (if t102 = true then ((spec_l29One.f k [(⟨a1_0, a1_1, a1_2⟩ : S32)]).bind fun t103 => (spec_PutBlock.j0 k l0 (!t103) a1_0 a1_1 a1_2)) else (spec_PutBlock.j0 k l0 true a1_0 a1_1 a1_2))
theorem spec_PutBlock.mono_l : ∀ k, (∀ y0 y1 y2 y3 y4, LeO (spec_PutBlock.j0 k y0 y1 y2 y3 y4) (spec_PutBlock.j0 (k + 1) y0 y1 y2 y3 y4))
  | 0 => fun _ _ _ _ _ r h => by simp [spec_PutBlock.j0] at h
  | k + 1 => by
    have ih0 := spec_PutBlock.mono_l k
    · intro y0 y1 y2 y3 y4
      unfold spec_PutBlock.j0
      repeat' first
      | (with_reducible exact ih0 _ _ _ _ _)
      | (with_reducible exact spec_l29Ok.mono _ _)
      | (with_reducible exact spec_l29One.mono _ _)
      | (with_reducible exact spec_l29Put.mono _ _ _ _ _)
      | (with_reducible exact LeO.refl _)
      | (with_reducible exact LeO.none _)
      | (with_reducible refine LeO.ite ?_ ?_)
      | (with_reducible refine LeO.bind ?_ (fun _ => ?_))
      | exact ih0 _ _ _ _ _
      | exact spec_l29Ok.mono _ _
      | exact spec_l29One.mono _ _
      | exact spec_l29Put.mono _ _ _ _ _
      | exact LeO.none _
      | refine LeO.ite ?_ ?_
      | refine LeO.bind ?_ (fun _ => ?_)
theorem spec_PutBlock.mono : ∀ a0 a1 a2 a3 k, LeO (spec_PutBlock.f k a0 a1 a2 a3) (spec_PutBlock.f (k + 1) a0 a1 a2 a3) := by
  intro a0 a1 a2 a3 k
  have ih0 := spec_PutBlock.mono_l k
  unfold spec_PutBlock.f
  repeat' first
      | (with_reducible exact ih0 _ _ _ _ _)
      | (with_reducible exact spec_l29Ok.mono _ _)
      | (with_reducible exact spec_l29One.mono _ _)
      | (with_reducible exact spec_l29Put.mono _ _ _ _ _)
      | (with_reducible exact LeO.refl _)
      | (with_reducible exact LeO.none _)
      | (with_reducible refine LeO.ite ?_ ?_)
      | (with_reducible refine LeO.bind ?_ (fun _ => ?_))
      | exact ih0 _ _ _ _ _
      | exact spec_l29Ok.mono _ _
      | exact spec_l29One.mono _ _
      | exact spec_l29Put.mono _ _ _ _ _
      | exact LeO.none _
      | refine LeO.ite ?_ ?_
      | refine LeO.bind ?_ (fun _ => ?_)
set_option maxHeartbeats 8000000 in
set_option maxRecDepth 100000 in
theorem spec_PutBlock.calls (k : Nat) (A0 : Option Addr) (c0 : Nat) (l0 : List (S32)) (a1_0 : ByteArray) (a1_1 : ByteArray) (a1_2 : ByteArray) (r1 : List (S32)) (r2 : Int) (w : World) (hr0 : Kd.C k32 w A0 l0.length l0) (hc0 : l0.length ≤ c0) (h : spec_PutBlock.f k l0 a1_0 a1_1 a1_2 = some (r1, r2)) :
    Calls Try.prog 34 #[.slice A0 l0.length c0, .agg #[.string a1_0, .string a1_1, .string a1_2]] w fun e w' => ∃ v0_ : Value, e = .returned (.tuple #[v0_, .int .i64 r2]) ∧ Kd.R k32 32 w' w.heap.size (fun _ => True) v0_ r1 ∧ Below w.heap.size w w' := by
  have hu32 := Try.underlying32
  have HR0 := Aside0.mk hr0
  have HC0 := Aside0.mk hc0
  clear hr0 hc0
  have HB := Aside0.mk (Below.refl w.heap.size w)
  have H : ((spec_l29Ok.f k l0).bind fun t102 => (if t102 = true then ((spec_l29One.f k [(⟨a1_0, a1_1, a1_2⟩ : S32)]).bind fun t103 => (spec_PutBlock.j0 k l0 (!t103) a1_0 a1_1 a1_2)) else (spec_PutBlock.j0 k l0 true a1_0 a1_1 a1_2))) = some (r1, r2) := h
  clear h
  have HC3 := Aside0.mk H
  clear H
  go_enter Try.func34, Try.ntmps34
  go_upto_region 1 with (first | ((with_reducible refine gate_dst (N := 3) rfl ?_); refine box_event ?hg (N := 3) ?hd (cs := #[.string a1_0, .string a1_1, .string a1_2]) (t := 32) ?hr ?_; (case hd => rfl); (case hg => rfl); (case hr => first | (go_simp; done) | (go_simp; rfl)); intro gb101 hg w4 hbox hb; have n0_ := Aside0.mk (below_step (by repeat (first | (with_reducible first | exact HB.out | apply below_alloc | apply pw_below_drewN | apply below_drew1) | exact HB.out)) hb); have n1_ := Aside0.mk (hbox); have n2_ := Aside0.mk ((by rw [hg]; exact (below_size (by repeat (first | (with_reducible first | exact HB.out | apply below_alloc | apply pw_below_drewN | apply below_drew1) | exact HB.out))) : w.heap.size ≤ gb101)); have n3_ := Aside0.mk ((by rw [hg]; exact (below_size (by repeat (first | (with_reducible first | exact HB.out | apply below_alloc | apply pw_below_drewN | apply below_drew1) | exact HB.out))) : w.heap.size ≤ gb101)); clear HB; have HB := n0_; have BK101 := n1_; have GW101 := n2_; have GE101 := n3_; clear n0_ n1_ n2_ n3_; clear hb hbox hg))
  (try simp only [Act.put, List.setIfInBounds_toArray, List.set_cons_zero, List.set_cons_succ])
  go_cut [13] (fun v13 wc => ∃ (kq : Nat) (x13_2 : Bool), v13 = .bool x13_2 ∧ Aside0 (spec_PutBlock.j0 kq l0 x13_2 a1_0 a1_1 a1_2 = some (r1, r2)) ∧ Aside0 (kq ≤ k) ∧ Aside0 (wc.heap[gb101]? = some (.cells #[.string a1_0, .string a1_1, .string a1_2] 32 (0, 0))) ∧ Aside0 (Below w.heap.size w wc))
  case first =>
    have H := HC3.out
    clear HC3
    replace H := Option.bind_eq_some_iff.mp H
    obtain ⟨t102, A50, H⟩ := H
    replace H : (if t102 = true then ((spec_l29One.f k [(⟨a1_0, a1_1, a1_2⟩ : S32)]).bind fun t103 => (spec_PutBlock.j0 k l0 (!t103) a1_0 a1_1 a1_2)) else (spec_PutBlock.j0 k l0 true a1_0 a1_1 a1_2)) = some (r1, r2) := H
    have A5 := Aside0.mk A50
    clear A50
    by_cases c6 : t102 = true
    · subst c6
      have H1 : ((spec_l29One.f k [(⟨a1_0, a1_1, a1_2⟩ : S32)]).bind fun t103 => (spec_PutBlock.j0 k l0 (!t103) a1_0 a1_1 a1_2)) = some (r1, r2) := by rw [if_pos rfl] at H; exact H
      clear H
      have H := H1
      clear H1
      replace H := Option.bind_eq_some_iff.mp H
      obtain ⟨t103, A70, H⟩ := H
      replace H : (spec_PutBlock.j0 k l0 (!t103) a1_0 a1_1 a1_2) = some (r1, r2) := H
      have A7 := Aside0.mk A70
      clear A70
      have H' := Aside0.mk H
      clear H
      go_wp2_with (first | ((with_reducible refine gate_callee (f := 46) rfl ?_); refine goesL_ (some 8) rfl rfl Try.func46 (by kernel_rfl) rfl #[.slice A0 l0.length c0] rfl (by (try simp only [List.map_toArray, List.map_cons, List.map_nil]); first | done | rfl | (simp only [List.length_drop, List.length_take]; rfl)) ?_; (with_reducible refine (spec_l29Ok.calls k _ _ l0 true _ ?side1 ?side2 A5.out).mono ?_); (case side1 => repeat (first | exact (Kd.C_below HR0.out HB.out) | (with_reducible refine Kd.C_alloc ?_ _) | (with_reducible refine Kd.C_drewN ?_ _) | (with_reducible refine Kd.C_drew ?_))); (case side2 => exact HC0.out); rintro e w' ⟨rfl, ⟨nd, rfl⟩⟩; refine ⟨_, rfl, ?_⟩) | (go_at_call 43; (with_reducible refine (spec_l29One.calls k _ [(⟨a1_0, a1_1, a1_2⟩ : S32)] t103 _ ?side1 A7.out).mono ?_); (case side1 => exact (RPW.C_blk (cs := [.string a1_0, .string a1_1, .string a1_2]) (t := 32) (g := gb101) (by (with_reducible repeat (first | refine blk_drewN ?_ _ | refine blk_drew ?_ | refine blk_alloc ?_ _)); exact BK101.out) (k32_mk _ (⟨a1_0, a1_1, a1_2⟩ : S32)))); rintro e w' ⟨rfl, ⟨nd, rfl⟩⟩))
      go_meet
      case rel => exact ⟨_, (!t103), (by first | rfl | (simp; done) | (simp [*]; done)), H', ⟨by first | omega | exact Nat.le_refl _⟩, ⟨by (with_reducible repeat (first | refine blk_drewN ?_ _ | refine blk_drew ?_ | refine blk_alloc ?_ _)); exact BK101.out⟩, ⟨by repeat (first | (with_reducible first | exact HB.out | apply below_alloc | apply pw_below_drewN | apply below_drew1 | refine below_set ?_ GE101.out) | exact HB.out)⟩⟩
    · replace c6 := Bool.eq_false_iff.mpr c6
      subst c6
      have H1 : (spec_PutBlock.j0 k l0 true a1_0 a1_1 a1_2) = some (r1, r2) := by rw [if_neg (show ¬ (false = true) by decide)] at H; exact H
      clear H
      have H := H1
      clear H1
      have H' := Aside0.mk H
      clear H
      go_wp2_with (first | ((with_reducible refine gate_callee (f := 46) rfl ?_); refine goesL_ (some 8) rfl rfl Try.func46 (by kernel_rfl) rfl #[.slice A0 l0.length c0] rfl (by (try simp only [List.map_toArray, List.map_cons, List.map_nil]); first | done | rfl | (simp only [List.length_drop, List.length_take]; rfl)) ?_; (with_reducible refine (spec_l29Ok.calls k _ _ l0 false _ ?side1 ?side2 A5.out).mono ?_); (case side1 => repeat (first | exact (Kd.C_below HR0.out HB.out) | (with_reducible refine Kd.C_alloc ?_ _) | (with_reducible refine Kd.C_drewN ?_ _) | (with_reducible refine Kd.C_drew ?_))); (case side2 => exact HC0.out); rintro e w' ⟨rfl, ⟨nd, rfl⟩⟩; refine ⟨_, rfl, ?_⟩))
      go_meet
      case rel => exact ⟨_, (true), (by first | rfl | (simp; done) | (simp [*]; done)), H', ⟨by first | omega | exact Nat.le_refl _⟩, ⟨by (with_reducible repeat (first | refine blk_drewN ?_ _ | refine blk_drew ?_ | refine blk_alloc ?_ _)); exact BK101.out⟩, ⟨by repeat (first | (with_reducible first | exact HB.out | apply below_alloc | apply pw_below_drewN | apply below_drew1 | refine below_set ?_ GE101.out) | exact HB.out)⟩⟩
  case rest =>
    clear HC3
    try clear p2
    try clear c3
    try clear c4
    try clear c6
    obtain ⟨kq, x13_2, rfl, HA, HJ2, BK101, HB⟩ := hcut
    cases kq with
    | zero => exact absurd HA.out (by simp [spec_PutBlock.j0])
    | succ kj2 =>
      have H := HA.out
      clear HA
      simp only [spec_PutBlock.j0] at H
      by_cases c8 : x13_2 = true
      · subst c8
        have H1 : (some (([] : List (S32)), 1)) = some (r1, r2) := by rw [if_pos rfl] at H; exact H
        clear H
        have H := H1
        clear H1
        simp only [Option.some.injEq, Prod.mk.injEq] at H
        obtain ⟨rfl, rfl⟩ := H
        go_wp2
        go_ret2
        exact ⟨_, by first | rfl | (simp [errW_none, errW_some] <;> rfl) | (simp [*, errW_none, errW_some] <;> rfl), by first | exact Kd.R_nil _ _ _ _ _ | exact Kd.N_nil _ _ _ _ _ | exact Kd.V_nil _ _ _ _ _ | exact Kd.Q_nil _ _ _ _ _ | exact Kd.S_nil _ _ _ _ _, by repeat (first | (with_reducible first | exact HB.out | apply below_alloc | apply pw_below_drewN | apply below_drew1 | refine below_set ?_ GE101.out) | exact HB.out)⟩
      · replace c8 := Bool.eq_false_iff.mpr c8
        subst c8
        have H1 : ((spec_l29Put.f kj2 l0 a1_0 a1_1 a1_2).bind fun t104 => (if (t104.length : Int) > 32 then (some (([] : List (S32)), 5)) else (some (t104, 0)))) = some (r1, r2) := by rw [if_neg (show ¬ (false = true) by decide)] at H; exact H
        clear H
        have H := H1
        clear H1
        replace H := Option.bind_eq_some_iff.mp H
        obtain ⟨t104, A90, H⟩ := H
        replace H : (if (t104.length : Int) > 32 then (some (([] : List (S32)), 5)) else (some (t104, 0))) = some (r1, r2) := H
        have A9 := Aside0.mk A90
        clear A90
        have HC10 := Aside0.mk H
        clear H
        have hcz11_0 : wc.cell? ⟨gb101, 0, none⟩ = some (.string a1_0) := (blk_cell BK101.out 0).trans rfl
        have hcz11_1 : wc.cell? ⟨gb101, 1, none⟩ = some (.string a1_1) := (blk_cell BK101.out 1).trans rfl
        have hcz11_2 : wc.cell? ⟨gb101, 2, none⟩ = some (.string a1_2) := (blk_cell BK101.out 2).trans rfl
        have hfz11_0 := blk_frozen BK101.out 0
        have hfz11_1 := blk_frozen BK101.out 1
        have hfz11_2 := blk_frozen BK101.out 2
        go_upto_if 19 with (first | ((with_reducible refine gate_callee (f := 53) rfl ?_); refine goesL_ (some 16) rfl rfl Try.func53 (by kernel_rfl) rfl #[.slice A0 l0.length c0, .agg #[.string a1_0, .string a1_1, .string a1_2]] rfl (by (try simp only [List.map_toArray, List.map_cons, List.map_nil]); first | done | rfl | (simp only [List.length_drop, List.length_take]; rfl)) ?_; (with_reducible refine (spec_l29Put.calls kj2 _ _ l0 a1_0 a1_1 a1_2 t104 _ ?side1 ?side2 A9.out).mono ?_); (case side1 => repeat (first | exact (Kd.C_below HR0.out HB.out) | (with_reducible refine Kd.C_alloc ?_ _) | (with_reducible refine Kd.C_drewN ?_ _) | (with_reducible refine Kd.C_drew ?_))); (case side2 => exact HC0.out); rintro e w12 ⟨v105, rfl, ho0, hb⟩; refine ⟨_, rfl, ?_⟩; have n0_ := Aside0.mk (Kd.R_lower (Kd.R_newB ho0 (g := gb101) (o := .cells #[.string a1_0, .string a1_1, .string a1_2] 32 (0, 0)) (by (with_reducible repeat (first | refine blk_drewN ?_ _ | refine blk_drew ?_ | refine blk_alloc ?_ _)); exact BK101.out)) (below_size (by repeat (first | (with_reducible first | exact HB.out | apply below_alloc | apply pw_below_drewN | apply below_drew1 | refine below_set ?_ GE101.out) | exact HB.out)))); have n1_ := Aside0.mk (blk_below (g := gb101) (o := .cells #[.string a1_0, .string a1_1, .string a1_2] 32 (0, 0)) (by (with_reducible repeat (first | refine blk_drewN ?_ _ | refine blk_drew ?_ | refine blk_alloc ?_ _)); exact BK101.out) hb); have n2_ := Aside0.mk (below_step (by repeat (first | (with_reducible first | exact HB.out | apply below_alloc | apply pw_below_drewN | apply below_drew1 | refine below_set ?_ GE101.out) | exact HB.out)) hb); clear BK101; clear HB; have HO106 := n0_; have BK101 := n1_; have HB := n2_; clear n0_ n1_ n2_; (try clear hb); (try clear hb2); (try clear hk); (try clear hi); (try clear ho0); obtain ⟨Ao13, co13, eo13⟩ := Kd.R_slice HO106.out; subst eo13))
        (try simp only [Act.put, List.setIfInBounds_toArray, List.set_cons_zero, List.set_cons_succ])
        have H := HC10.out
        clear HC10
        by_cases c14 : (t104.length : Int) > 32
        · rw [if_pos c14] at H
          have c14b0 : decide (32 < (t104.length : Int)) = true := decide_eq_true c14
          have c14b1 : decide (32 < t104.length) = true := decide_eq_true (by omega)
          clear c14
          (first | rw [c14b0] | (simp only [i64_w, i32_w]; rw [c14b0]) | (simp only [c14b2, Bool.not_true, Bool.not_false]) | (simp only [c14b1, Bool.not_true, Bool.not_false]) | (simp only [c14b0, Bool.not_true, Bool.not_false]) | skip)
          simp only [Option.some.injEq, Prod.mk.injEq] at H
          obtain ⟨rfl, rfl⟩ := H
          go_wp2
          go_ret2
          exact ⟨_, by first | rfl | (simp [errW_none, errW_some] <;> rfl) | (simp [*, errW_none, errW_some] <;> rfl), by first | exact Kd.R_nil _ _ _ _ _ | exact Kd.N_nil _ _ _ _ _ | exact Kd.V_nil _ _ _ _ _ | exact Kd.Q_nil _ _ _ _ _ | exact Kd.S_nil _ _ _ _ _, by repeat (first | (with_reducible first | exact HB.out | apply below_alloc | apply pw_below_drewN | apply below_drew1 | refine below_set ?_ GE101.out) | exact HB.out)⟩
        · rw [if_neg c14] at H
          have c14b0 : decide (32 < (t104.length : Int)) = false := decide_eq_false c14
          have c14b1 : decide (32 < t104.length) = false := decide_eq_false (by omega)
          clear c14
          (first | rw [c14b0] | (simp only [i64_w, i32_w]; rw [c14b0]) | (simp only [c14b2, Bool.not_true, Bool.not_false]) | (simp only [c14b1, Bool.not_true, Bool.not_false]) | (simp only [c14b0, Bool.not_true, Bool.not_false]) | skip)
          simp only [Option.some.injEq, Prod.mk.injEq] at H
          obtain ⟨rfl, rfl⟩ := H
          go_wp2
          go_ret2
          exact ⟨_, by first | rfl | (simp [errW_none, errW_some] <;> rfl) | (simp [*, errW_none, errW_some] <;> rfl), by (with_reducible repeat (first | apply Kd.R_alloc | apply Kd.R_drewN | apply Kd.R_drew)); exact Kd.R_mono HO106.out (fun _ hk => trivial), by repeat (first | (with_reducible first | exact HB.out | apply below_alloc | apply pw_below_drewN | apply below_drew1 | refine below_set ?_ GE101.out) | exact HB.out)⟩

end Go.Proofs.Ytckboiphlhhckaa.Q
namespace Go.Proofs.Ytckboiphlhhckaa.Q
open Go.RowKit Go.Proofs.YtckboiphlhhckaaW.PrintWords Go.Proofs.YtckboiphlhhckaaW.PrintLast Go.Proofs.YtckboiphlhhckaaW.PrintMore
attribute [local go_sem] max2_int min2_int max_two min_two max_three min_three max_four min_four   -- for this text's walks alone
set_option linter.unusedVariables false
set_option linter.unusedSimpArgs false

/-! ### impl_Block_54: function 54 -/
-- IMPORT Derived.Test.YtckboiphlhhckaaQSlx
def impl_Block_54.f (l0 : List S32) (a1 : Int) (l2 : List S32) : Option (List S32) := match l2 with
  | [x] => if 0 ≤ a1 ∧ a1 ≤ (l0.length : Int) ∧ l0.length + 1 < 2932031007402 then some (l0.take a1.toNat ++ [x] ++ l0.drop a1.toNat) else none
  | _ => none
set_option maxHeartbeats 2000000 in
set_option maxRecDepth 100000 in
theorem impl_Block_54.calls (P0_ : Nat → Prop) (u9000_ : Value) (l0 : List S32) (a1 : Int) (P2_ : Nat → Prop) (u9001_ : Value) (l2 : List S32) (r : List S32) (w0 w : World) (hB : Below w0.heap.size w0 w) (ho0 : Kd.R k32 32 w w0.heap.size P0_ u9000_ l0) (hp0_2 : ∀ k_, P0_ k_ → ¬ P2_ k_) (ho2 : Kd.R k32 32 w w0.heap.size P2_ u9001_ l2) (hp2_0 : ∀ k_, P2_ k_ → ¬ P0_ k_) (h : impl_Block_54.f l0 a1 l2 = some r) :
    Calls Try.prog 54 #[u9000_, .int .i64 a1, u9001_] w fun e w' => ∃ v0_ : Value, e = .returned (v0_) ∧ Kd.R k32 32 w' w0.heap.size (fun k_ => ((P0_ k_ ∨ P2_ k_) ∨ w.heap.size ≤ k_)) v0_ r ∧ Below w0.heap.size w0 w' ∧ Kept w w' (fun k_ => P0_ k_ ∨ P2_ k_) := by
  unfold impl_Block_54.f at h
  split at h
  case h_2 => cases h
  rename_i x
  split at h
  case isFalse => cases h
  rename_i hc
  obtain ⟨h0, h1, hlim⟩ := hc
  obtain rfl := Option.some.inj h
  obtain ⟨i, rfl⟩ := Int.eq_ofNat_of_zero_le h0
  rw [Int.toNat_natCast]
  have hF : SLX.Flat k32 := ⟨fun _ _ _ _ _ _ _ _ h => h, fun _ _ _ _ _ h => h⟩
  have hsz : maxLen = 9223372036854775807 := by decide
  rcases SLX.R_open ho2 with ⟨_, hx⟩ | ⟨g2, c2, cur2, okk2, rfl, hok2, hbg2, hh2, hnc2, hcm2, hcs2, hrep2⟩
  · cases hx
  have hl1 : ([x] : List S32).length = 1 := rfl
  rw [hl1] at hnc2 hrep2 ho2 ⊢
  obtain ⟨i0, hi0, hz0, hzs, hzb⟩ := info_parts info32
  have hC2 := (Kd.R_reads' ho2).2.2
  rw [hl1] at hC2
  have hRow : Reps (Kd.M k32 w w0.heap.size okk2) 3 [x] (cur2.toList.take 3) := by
    have h := hrep2
    rw [Nat.one_mul] at h
    exact h
  obtain ⟨cx, hcx⟩ : ∃ cx, cx = cur2.toList.take 3 := ⟨_, rfl⟩
  rw [← hcx] at hRow
  have hcxl : cx.length = 3 := by simpa using hRow.1
  have hcx1 : ∀ v ∈ cx, v.oneCell' = true := by
    have := hRow.2 0 x rfl
    have h2 : (cx.drop (0 * 3)).take 3 = cx := by rw [Nat.zero_mul, List.drop_zero]; exact List.take_of_length_le (by omega)
    rw [h2] at this
    exact Kd.K_one k32 (Kd.K_of_M k32 this)
  have hcxc : ∀ (W : World), W.heap[g2]? = some (.cells cur2 32 (0, 0)) → ∀ j v, cx[j]? = some v → W.cell? ((⟨g2, 0, none⟩ : Addr).add j) = some v := by
    intro W hW j v hj
    rw [add_plain, cell_of_row W g2 _ cur2 32 (0, 0) hW, ← Array.getElem?_toList]
    rw [hcx, List.getElem?_take] at hj
    split at hj
    · exact hj
    · cases hj
  by_cases hend : i = l0.length
  · -- at the end
    subst hend
    rw [List.take_length, List.drop_length, List.append_nil]
    have HOm : Kd.R k32 32 w w0.heap.size (fun k_ => ((P0_ k_ ∨ P2_ k_) ∨ w.heap.size ≤ k_)) u9000_ l0 := Kd.R_mono ho0 (fun _ hk => .inl (.inl hk))
    have HKS : ∀ k, u9000_.ownBlock = some k → P0_ k := ho0.1
    obtain ⟨A0, c0, rfl, hc0, _⟩ := Kd.R_reads ho0
    have HO := Aside0.mk HOm
    have HB := Aside0.mk hB
    have HC := Aside0.mk hC2
    have HL := Aside0.mk hlim
    have HS := Aside0.mk HKS
    clear ho0 HOm hB hC2 hlim hcx1 hcxc hRow hrep2 h h1 h0 hp0_2 hp2_0 HKS
    go_enter Try.func54, Try.ntmps54
    go_wp2_with ((with_reducible refine gate_builtin (b := .append) (xs := #[.tmp 23, .tmp 24]) rfl ?_); at_builtin; refine Kd.R_append_rows k32 (w0 := w0) w0.heap.size rfl (.tmp 23) (.tmp 24) 25 32 (.agg #[(.string ⟨#[]⟩), (.string ⟨#[]⟩), (.string ⟨#[]⟩)]) 48 rfl Try.underlying25 info32 rfl (by decide) (by omega) _ l0 [x] _ _ _ (fun k_ => ((P0_ k_ ∨ P2_ k_) ∨ w.heap.size ≤ k_)) (fun _ => False) rfl rfl HO.out HC.out (fun _ _ h => h) (fun _ h => h.elim) (fun _ hk => .inr hk) HB.out HB.out.size (by have := HL.out; omega) ?_; intro v1 w1 ho1 hb1 hg1 _; have HO1 := Aside0.mk ho1; have HB1 := Aside0.mk hb1; have HK1 := Aside0.mk (SLX.kept_of_grown' (S := fun k_ => P0_ k_ ∨ P2_ k_) hg1 (fun k hk => .inl (HS.out k hk))); clear ho1 hb1 hg1)
    all_goals
      go_ret
      exact ⟨_, rfl, HO1.out, HB1.out, HK1.out⟩
  · -- inside: the row has an element, so it is some block
    rcases SLX.R_open ho0 with ⟨_, rfl⟩ | ⟨g, c, cur, okk, rfl, hok, hbg, hh, hnc, hcm, hcs, hrep⟩
    · simp at h1 hend; omega
    obtain ⟨n, hn⟩ : ∃ n, n = l0.length := ⟨_, rfl⟩
    have hi : i < n := by omega
    have hgg : g ≠ g2 := fun e => hp0_2 g hok (e ▸ hok2)
    obtain ⟨CS, hCS⟩ : ∃ CS, CS = cur.toList.take (l0.length * 3) := ⟨_, rfl⟩
    have hrepC : Reps (Kd.M k32 w w0.heap.size okk) 3 l0 CS := by rw [hCS]; exact hrep
    have hCSl : CS.length = n * 3 := by rw [hrepC.1, hn]
    have hcsz : cur.size = c * 3 := hcs
    have hnc3 : n * 3 ≤ c * 3 := Nat.mul_le_mul_right _ (by omega)
    have hin3 : i * 3 + 3 ≤ n * 3 := by have := Nat.mul_le_mul_right 3 (show i + 1 ≤ n by omega); rw [Nat.add_mul, Nat.one_mul] at this; exact this
    have hCS1 : ∀ v ∈ CS, v.oneCell' = true := by
      intro v hv
      obtain ⟨q, hq, rfl⟩ := List.mem_iff_getElem.1 hv
      have hql : q / 3 < l0.length := by omega
      refine Kd.K_one k32 (Kd.K_of_M k32 (hrepC.2 (q / 3) _ (List.getElem?_eq_getElem hql))) _ ?_
      rw [List.mem_iff_getElem?]
      refine ⟨q % 3, ?_⟩
      rw [List.getElem?_take, if_pos (by omega), List.getElem?_drop, show q / 3 * 3 + q % 3 = q by omega, List.getElem?_eq_getElem hq]
    have hCSc : ∀ (W : World), W.heap[g]? = some (.cells cur 32 (0, 0)) → ∀ p j v, (CS.drop p)[j]? = some v → W.cell? ((⟨g, p, none⟩ : Addr).add j) = some v := by
      intro W hW p j v hj
      rw [Addr.add_lit, cell_of_row W g _ cur 32 (0, 0) hW, ← Array.getElem?_toList]
      rw [List.getElem?_drop, hCS, List.getElem?_take] at hj
      split at hj
      · exact hj
      · cases hj
    have hDl : (CS.drop (i * 3)).length = (n - i) * 3 := by rw [List.length_drop, hCSl, Nat.sub_mul]
    have hRes : Reps (Kd.M k32 w w0.heap.size okk) 3 (l0.take i ++ [x] ++ l0.drop i) (CS.take (i * 3) ++ cx ++ CS.drop (i * 3)) :=
      Kd.reps_append (Kd.reps_append (Kd.reps_take hrepC (by omega)) (SLX.reps_imp hRow (fun _ _ h => hF.1 _ _ _ _ _ _ _ _ h))) (Kd.reps_drop hrepC)
    have hsz3 : (Try.prog.info? 32).map (·.size) = some 3 := by rw [hi0]; simp [hzs]
    have hrl : (l0.take i ++ [x] ++ l0.drop i).length = n + 1 := by simp; omega
    have b1 : i ≤ n := by omega
    have b2 : n ≤ c := by omega
    have b3 : ¬ ((i : Int) = (n : Int)) := by omega
    have b4 : ¬ c = i := by omega
    have b5 : i ≤ c := by omega
    have b6 : (0 : Int) ≤ (i : Int) + 1 := by omega
    have b7 : (i : Int) + 1 ≤ (n : Int) + 1 := by omega
    have b8 : ((i : Int) + 1).toNat = i + 1 := by omega
    have b9 : (i : Int) ≤ (n : Int) + 1 := by omega
    have hlm : n < 140737488355328 := by omega
    have w1_ : IntKind.i64.wrap ((n : Int) + 1) = (n : Int) + 1 := by rw [IntKind.wrap_i64]; omega
    have w2_ : IntKind.i64.wrap ((i : Int) + 1) = (i : Int) + 1 := by rw [IntKind.wrap_i64]; omega
    have w3_ : IntKind.i64.wrap ((n : Int) + 1 - (i : Int)) = (n : Int) + 1 - (i : Int) := by rw [IntKind.wrap_i64]; omega
    rw [← hn]
    by_cases hroom : n + 1 ≤ c
    · -- there is room: in place
      have hl := SLX.shift_list cur.toList cx (CS.drop (i * 3)) (i * 3) (by rw [hcxl, hDl, Array.length_toList, hcsz]; have := Nat.mul_le_mul_right 3 hroom; omega)
      rw [hcxl, hDl, show i * 3 + 3 + (n - i) * 3 = (n + 1) * 3 by omega, show i * 3 + 3 = (i + 1) * 3 by omega] at hl
      obtain ⟨c1, hc1⟩ : ∃ c1 : Array Value, c1 = (cur.toList.take ((i + 1) * 3) ++ CS.drop (i * 3) ++ cur.toList.drop ((n + 1) * 3)).toArray := ⟨_, rfl⟩
      obtain ⟨c3, hc3⟩ : ∃ c3 : Array Value, c3 = (c1.toList.take (i * 3) ++ cx ++ c1.toList.drop ((i + 1) * 3)).toArray := ⟨_, rfl⟩
      have hc1s : c1.size = cur.size := by rw [hc1]; simp [hDl, hcsz]; have := Nat.mul_le_mul_right 3 hroom; omega
      have e1 : c3.toList.take ((n + 1) * 3) = CS.take (i * 3) ++ cx ++ CS.drop (i * 3) := by
        have h := hl.1
        rw [hc3, hc1]
        simp only [List.toList_toArray]
        rw [h, hCS, List.take_take, Nat.min_eq_left (by rw [← hn]; omega)]
      have e2 : c3.size = c * 3 := by
        have h := hl.2
        rw [← hcsz, ← Array.length_toList, ← Array.length_toList, hc3, hc1]
        simpa only [List.toList_toArray] using h
      have hov : ∀ lb cb, (callFunc 61 #[.slice (some ⟨g2, 0, none⟩) 1 c2, .slice (some ⟨g, (i + 1) * 3, none⟩) lb cb]).run Try.prog w = .ok (.value (.bool false)) w := fun lb cb => by
        rw [run_callFunc_extern Try.func61 (by kernel_rfl) (by kernel_rfl) (by kernel_rfl) (e := Extern.SlicesOverlaps.overlaps #[25, 25] #[4]) (by kernel_rfl),
          Lib.run_overlaps_apart w 25 4 32 Try.underlying25 3 Try.sizeOf32 ⟨g2, 0, none⟩ ⟨g, (i + 1) * 3, none⟩ 1 c2 lb cb (Ne.symm hgg) 32 32 cur2.size cur.size (by simp [World.shape?, hh2]) (by simp [World.shape?, hh]) (by rw [hcsz]; omega) (blk_frozen hh2 _) (blk_frozen hh2 _)]
        rfl
      have hA1 : ∀ ty dl dc sl sc, dl = n - i → sl = n + 1 - i → (Builtin.copy_ #[25, 25] ty #[.slice (some ⟨g, (i + 1) * 3, none⟩) dl dc, .slice (some ⟨g, i * 3, none⟩) sl sc]).run Try.prog w.drew = .ok (goInt (Nat.min sl dl)) (w.drew.setRow g c1) := fun ty dl dc sl sc hdl hsl => by
        have := SLX.run_copy_k (P := Try.prog) w.drew 25 25 ty 32 3 g ((i + 1) * 3) dl dc ⟨g, i * 3, none⟩ sl sc cur 32 (CS.drop (i * 3)) Try.underlying25 hsz3 hh (by rw [hDl]; congr 1; simp only [Nat.min_def]; split <;> omega)
          (hCSc w.drew hh _) (by rw [hDl, hcsz]; have := Nat.mul_le_mul_right 3 hroom; omega) (fun v hv => hCS1 v (List.mem_of_mem_drop hv))
        rw [hDl, show (i + 1) * 3 + (n - i) * 3 = (n + 1) * 3 by omega, ← hc1] at this
        exact this
      have hh3 : (w.drew.setRow g c1).heap[g]? = some (.cells c1 32 (0, 0)) := setRow_heap w.drew g cur c1 32 (0, 0) hh
      have hh4 : (w.drew.setRow g c1).heap[g2]? = some (.cells cur2 32 (0, 0)) := (setRow_other w.drew g g2 c1 (Ne.symm hgg)).trans hh2
      have hA2 : ∀ ty dl dc, dl = n + 1 - i → (Builtin.copy_ #[25, 25] ty #[.slice (some ⟨g, i * 3, none⟩) dl dc, .slice (some ⟨g2, 0, none⟩) 1 c2]).run Try.prog (w.drew.setRow g c1) = .ok (goInt (Nat.min 1 dl)) ((w.drew.setRow g c1).setRow g c3) := fun ty dl dc hdl => by
        have := SLX.run_copy_k (P := Try.prog) (w.drew.setRow g c1) 25 25 ty 32 3 g (i * 3) dl dc ⟨g2, 0, none⟩ 1 c2 c1 32 cx Try.underlying25 hsz3 hh3 (by rw [hcxl]; simp only [Nat.min_def]; split <;> omega)
          (hcxc _ hh4) (by rw [hcxl, hc1s, hcsz]; omega) hcx1
        rw [hcxl, show i * 3 + 3 = (i + 1) * 3 by omega, ← hc3] at this
        exact this
      have HG : w.grownBy ((w.drew.setRow g c1).setRow g c3) (some g) := World.grownBy.trans (World.grownBy.trans (grown_of_below (below_drew (Below.refl _ _)) _) (SLX.setRow_grown w.drew g c1)) (SLX.setRow_grown _ g c3)
      have HB := Aside0.mk (hB.grown HG hB.size (fun k hk => by injection hk with hk; subst hk; exact hbg))
      have HK := Aside0.mk (SLX.kept_of_grown (S := fun k_ => P0_ k_ ∨ P2_ k_) HG (.inl hok))
      have HR := Aside0.mk (SLX.R_shut (d := k32) (e := 32) (W := (w.drew.setRow g c1).setRow g c3) (base := w0.heap.size) (g := g) (c := c) (n := n + 1) (ok := fun k_ => ((P0_ k_ ∨ P2_ k_) ∨ w.heap.size ≤ k_)) (xs := l0.take i ++ [x] ++ l0.drop i) (.inl (.inl hok)) hbg (setRow_heap _ g c1 c3 32 (0, 0) hh3) hrl.symm hroom hcm e2
        (by show Reps _ 3 _ (List.take ((n + 1) * 3) _); rw [e1]; exact SLX.reps_imp hRes (fun _ _ h => hF.1 _ _ _ _ _ _ _ _ h)))
      have b10 : ¬ c = i + 1 := by omega
      have b11 : ¬ ((c : Int) < (n : Int) + 1) := by omega
      have b12 : n + 1 ≤ c := hroom
      have b13 : i + 1 ≤ c := by omega
      have b14 : i ≤ n + 1 := by omega
      clear HG hh3 hh4 hl e1 e2 hc1 hc3 hc1s hRes hrepC hCSc hCSl hDl hCS hCS1 hcxc hcx hRow hrep hrep2 hh hh2 ho0 ho2 hB hC2 hcs hcs2 h h0 h1 hlim hrl hend hnc
      have HN := Aside0.mk hn
      clear hn
      go_enter Try.func54, Try.ntmps54
      go_wp2_with (simp only [hov])
      go_region_law (refine SLX.step_copy_runS rfl (.tmp 73) (.tmp 76) 25 25 rfl (.slice (some ⟨g, (i + 1) * 3, none⟩) (n + 1 - (i + 1)) (c - (i + 1))) (.slice (some ⟨g, i * 3, none⟩) (n + 1 - i) (c - i)) (by simp [Act.eval, Act.put]) (by simp [Act.eval, Act.put]) (hA1 _ _ _ _ _ (by omega) (by omega)) ?_)
      go_wp2_with (at_builtin; refine SLX.list_copy_runS rfl (.tmp 80) (.tmp 81) 25 25 rfl _ _ rfl rfl (hA2 _ _ _ (by omega)) ?_)
      go_ret
      exact ⟨_, rfl, HR.out, HB.out, HK.out⟩
    · -- no room: a new row
      have hgl : g < w.heap.size := (Array.getElem?_eq_some_iff.1 hh).1
      have hgl2 : g2 < w.heap.size := (Array.getElem?_eq_some_iff.1 hh2).1
      have hold : (Builtin.firstCells i0.size i (.slice (some ⟨g, 0, none⟩) i c)).run Try.prog w.drew = .ok (CS.take (i * 3)).toArray w.drew := by
        rw [hzs]
        refine run_firstCells_some w.drew 3 i ⟨g, 0, none⟩ i c (CS.take (i * 3)) (by rw [List.length_take, hCSl]; omega) (fun j v hj => ?_)
        rw [List.getElem?_take] at hj
        split at hj
        · exact hCSc w.drew hh 0 j v (by rwa [List.drop_zero])
        · cases hj
      obtain ⟨G, hG⟩ : ∃ G, G = grownCap w (n + 1) c 32 := ⟨_, rfl⟩
      have hGn : n + 1 ≤ G := by rw [hG]; exact grownCap_ge w _ _ _
      have hGm : G ≤ maxLen := by rw [hG]; exact grownCap_le_maxLen w (n + 1) c 32 (by rw [hsz]; omega)
      obtain ⟨ROW, hROW⟩ : ∃ ROW : Array Value, ROW = (CS.take (i * 3)).toArray ++ Builtin.zeroCells (Value.cells (.agg #[(.string ⟨#[]⟩), (.string ⟨#[]⟩), (.string ⟨#[]⟩)])) (n + 1 - i) ++ Builtin.zeroCells (Value.cells (.agg #[(.string ⟨#[]⟩), (.string ⟨#[]⟩), (.string ⟨#[]⟩)])) (G - (n + 1)) := ⟨_, rfl⟩
      have hzc : (Value.cells (.agg #[(.string ⟨#[]⟩), (.string ⟨#[]⟩), (.string ⟨#[]⟩)])).size = 3 := rfl
      have hRs : ROW.size = G * 3 := by
        rw [hROW, Array.size_append, Array.size_append, SLX.zeroCells_size, SLX.zeroCells_size, hzc, List.size_toArray, List.length_take, hCSl]
        have := Nat.mul_le_mul_right 3 hGn
        omega
      have hGn3 : (n + 1) * 3 ≤ G * 3 := Nat.mul_le_mul_right _ hGn
      have hRt : ROW.toList.take (i * 3) = CS.take (i * 3) := by
        rw [hROW, Array.toList_append, Array.toList_append, List.append_assoc]
        exact List.take_left' (by simp [hCSl]; omega)
      have hrz : ∀ ty, (Builtin.append_ #[25, 3] ty #[.slice (some ⟨g, 0, none⟩) i c, .int .i64 ((n : Int) + 1 - (i : Int))]).run Try.prog w = .ok (.slice (some ⟨w.heap.size, 0, none⟩) (n + 1) G) (w.drew.alloc (.cells ROW 32)) := fun ty => by
        have h := Lib.run_append_grow_zeros (P := Try.prog) w 25 3 ty 32 i0 (.agg #[(.string ⟨#[]⟩), (.string ⟨#[]⟩), (.string ⟨#[]⟩)]) .i64 .i64 Try.underlying25 Try.underlying3 hi0 hz0 (some ⟨g, 0, none⟩) i c (CS.take (i * 3)) hold (n + 1 - i) (by omega) (by rw [hzs]; decide) (by omega) (by omega) (by rw [hzb]; omega) (by rw [hzb, show i + (n + 1 - i) = n + 1 by omega]; exact growslice_fits (by omega) (by omega))
        rw [show i + (n + 1 - i) = n + 1 by omega, ← hG, ← hROW] at h
        rw [show (n : Int) + 1 - (i : Int) = ((n + 1 - i : Nat) : Int) by omega]
        exact h
      have hl := SLX.ins_list ROW.toList cx (CS.drop (i * 3)) (i * 3) (by rw [hcxl, hDl, Array.length_toList, hRs]; omega)
      rw [hcxl, hDl, show i * 3 + 3 + (n - i) * 3 = (n + 1) * 3 by omega, show i * 3 + 3 = (i + 1) * 3 by omega, hRt] at hl
      obtain ⟨c1, hc1⟩ : ∃ c1 : Array Value, c1 = (CS.take (i * 3) ++ cx ++ ROW.toList.drop ((i + 1) * 3)).toArray := ⟨_, rfl⟩
      obtain ⟨c3, hc3⟩ : ∃ c3 : Array Value, c3 = (c1.toList.take ((i + 1) * 3) ++ CS.drop (i * 3) ++ c1.toList.drop ((n + 1) * 3)).toArray := ⟨_, rfl⟩
      have hc1s : c1.size = G * 3 := by rw [hc1]; simp [hCSl, hcxl, hRs]; omega
      have e1 : c3.toList.take ((n + 1) * 3) = CS.take (i * 3) ++ cx ++ CS.drop (i * 3) := by
        rw [hc3, hc1]
        simpa only [List.toList_toArray] using hl.1
      have e2 : c3.size = G * 3 := by
        have h := hl.2
        rw [← hRs, ← Array.length_toList, ← Array.length_toList, hc3, hc1]
        simpa only [List.toList_toArray] using h
      have hA1 : ∀ (W : World), W.heap[w.heap.size]? = some (.cells ROW 32 (0, 0)) → W.heap[g2]? = some (.cells cur2 32 (0, 0)) → ∀ ty dl dc, dl = n + 1 - i → (Builtin.copy_ #[25, 25] ty #[.slice (some ⟨w.heap.size, i * 3, none⟩) dl dc, .slice (some ⟨g2, 0, none⟩) 1 c2]).run Try.prog W = .ok (goInt (Nat.min 1 dl)) (W.setRow w.heap.size c1) := fun W hW hW2 ty dl dc hdl => by
        have := SLX.run_copy_k (P := Try.prog) W 25 25 ty 32 3 w.heap.size (i * 3) dl dc ⟨g2, 0, none⟩ 1 c2 ROW 32 cx Try.underlying25 hsz3 hW (by rw [hcxl]; simp only [Nat.min_def]; split <;> omega)
          (hcxc W hW2) (by rw [hcxl, hRs]; omega) hcx1
        rw [hcxl, show i * 3 + 3 = (i + 1) * 3 by omega, hRt, ← hc1] at this
        exact this
      have hA2 : ∀ (W : World), W.heap[w.heap.size]? = some (.cells c1 32 (0, 0)) → W.heap[g]? = some (.cells cur 32 (0, 0)) → ∀ ty dl dc sl sc, dl = n - i → sl = n - i → (Builtin.copy_ #[25, 25] ty #[.slice (some ⟨w.heap.size, (i + 1) * 3, none⟩) dl dc, .slice (some ⟨g, i * 3, none⟩) sl sc]).run Try.prog W = .ok (goInt (Nat.min sl dl)) (W.setRow w.heap.size c3) := fun W hW hW2 ty dl dc sl sc hdl hsl => by
        have := SLX.run_copy_k (P := Try.prog) W 25 25 ty 32 3 w.heap.size ((i + 1) * 3) dl dc ⟨g, i * 3, none⟩ sl sc c1 32 (CS.drop (i * 3)) Try.underlying25 hsz3 hW (by rw [hDl]; congr 1; simp only [Nat.min_def]; split <;> omega)
          (hCSc W hW2 _) (by rw [hDl, hc1s]; omega) (fun v hv => hCS1 v (List.mem_of_mem_drop hv))
        rw [hDl, show (i + 1) * 3 + (n - i) * 3 = (n + 1) * 3 by omega, ← hc3] at this
        exact this
      obtain ⟨Wa, hWa⟩ : ∃ Wa, Wa = (w.alloc (.cells ROW 32)).drew := ⟨_, rfl⟩
      have a1_ : Wa.heap[w.heap.size]? = some (.cells ROW 32 (0, 0)) := by rw [hWa]; exact heap_alloc_new w _
      have a2_ : Wa.heap[g2]? = some (.cells cur2 32 (0, 0)) := by rw [hWa]; exact (heap_alloc_old w _ hgl2).trans hh2
      have a3_ : Wa.heap[g]? = some (.cells cur 32 (0, 0)) := by rw [hWa]; exact (heap_alloc_old w _ hgl).trans hh
      have a4_ : (Wa.setRow w.heap.size c1).drew.heap[w.heap.size]? = some (.cells c1 32 (0, 0)) := setRow_heap Wa _ ROW c1 32 (0, 0) a1_
      have a5_ : (Wa.setRow w.heap.size c1).drew.heap[g]? = some (.cells cur 32 (0, 0)) := (setRow_other Wa _ g c1 (by omega)).trans a3_
      have r1 : ∀ ty dl dc, dl = n + 1 - i → _ := hA1 Wa a1_ a2_
      have r2 : ∀ ty dl dc sl sc, dl = n - i → sl = n - i → _ := hA2 (Wa.setRow w.heap.size c1).drew a4_ a5_
      have HG : w.grownBy ((Wa.setRow w.heap.size c1).drew.setRow w.heap.size c3) (some w.heap.size) := by
        refine World.grownBy.trans (World.grownBy.trans (World.grownBy.trans (b := Wa) ?_ (SLX.setRow_grown Wa w.heap.size c1)) (grown_of_below (below_drew (Below.refl _ _)) _)) (SLX.setRow_grown _ _ c3)
        rw [hWa]
        exact grown_of_below (below_drew (below_alloc (Below.refl _ _) _)) _
      have HB := Aside0.mk (hB.grown HG hB.size (fun k hk => by injection hk with hk; subst hk; exact hB.size))
      have HK : Aside0 (Kept w ((Wa.setRow w.heap.size c1).drew.setRow w.heap.size c3) (fun k_ => P0_ k_ ∨ P2_ k_)) := ⟨⟨HG.size, fun k hk _ => HG.block k hk (fun he => by injection he with he; omega)⟩⟩
      have HR := Aside0.mk (SLX.R_shut (d := k32) (e := 32) (W := (Wa.setRow w.heap.size c1).drew.setRow w.heap.size c3) (base := w0.heap.size) (g := w.heap.size) (c := G) (n := n + 1) (ok := fun k_ => ((P0_ k_ ∨ P2_ k_) ∨ w.heap.size ≤ k_)) (xs := l0.take i ++ [x] ++ l0.drop i) (.inr (Nat.le_refl _)) hB.size (setRow_heap _ _ c1 c3 32 (0, 0) a4_) hrl.symm hGn hGm e2
        (by show Reps _ 3 _ (List.take ((n + 1) * 3) _); rw [e1]; exact SLX.reps_imp hRes (fun _ _ h => hF.1 _ _ _ _ _ _ _ _ h)))
      have b10 : ¬ G = i + 1 := by omega
      have b11 : ((c : Int) < (n : Int) + 1) := by omega
      have b12 : ¬ G = i := by omega
      have b13 : i + 1 ≤ G := by omega
      have b14 : i ≤ n + 1 := by omega
      have b15 : i ≤ G := by omega
      subst hWa
      clear HG hl e1 e2 hc1 hc3 hc1s hRes hrepC hCSc hCSl hDl hCS hCS1 hcxc hcx hRow hrep hrep2 hh hh2 ho0 ho2 hB hC2 hcs hcs2 h h0 h1 hlim hrl hend hnc hold hG hROW hRs hRt hA1 hA2 a1_ a2_ a3_ a4_ a5_ hgl hgl2
      have HN := Aside0.mk hn
      clear hn
      go_enter Try.func54, Try.ntmps54
      go_wp2_with (first
        | (at_builtin; refine SLX.list_append_runS rfl (.tmp 34) (.tmp 39) 25 3 rfl _ _ rfl rfl (hrz _) ?_)
        | (at_builtin; refine SLX.list_copy_runS rfl (.tmp 43) (.tmp 44) 25 25 rfl _ _ rfl rfl (r1 _ _ _ (by omega)) ?_))
      go_region_law (refine SLX.step_copy_runS rfl (.tmp 50) (.tmp 53) 25 25 rfl (.slice (some ⟨w.heap.size, (i + 1) * 3, none⟩) (n + 1 - (i + 1)) (G - (i + 1))) (.slice (some ⟨g, i * 3, none⟩) (n - i) (c - i)) (by simp [Act.eval, Act.put]) (by simp [Act.eval, Act.put]) (r2 _ _ _ _ _ (by omega) (by omega)) ?_)
      go_wp2
      go_ret
      exact ⟨_, rfl, HR.out, HB.out, HK.out⟩

end Go.Proofs.Ytckboiphlhhckaa.Q
namespace Go.Proofs.Ytckboiphlhhckaa.Q
open Go.RowKit Go.Proofs.YtckboiphlhhckaaW.PrintWords Go.Proofs.YtckboiphlhhckaaW.PrintLast Go.Proofs.YtckboiphlhhckaaW.PrintMore
attribute [local go_sem] max2_int min2_int max_two min_two max_three min_three max_four min_four   -- for this text's walks alone
set_option linter.unusedVariables false
set_option linter.unusedSimpArgs false

/-! ### impl_PutBlock: function 35 -/
def impl_PutBlock.j0 : Nat → List (S32) → Bool → ByteArray → ByteArray → ByteArray → Option ((List (S32)) × Int)
  | 0, _, _, _, _, _ => none
  | k + 1, x0, x16, x102000, x102001, x102002 => if x16 = true then (some (([] : List (S32)), 1)) else ((impl_Block_52.f x0).bind fun t104 => ((impl_Block_49.f k x0 x102000 x102001 x102002).bind fun bt107 => (if bt107.2 = true then (if 0 ≤ bt107.1 then (if bt107.1 < (t104.length : Int) then (some ((t104.set (bt107.1 : Int).toNat (⟨x102000, x102001, x102002⟩ : S32)), 0)) else (none)) else (none)) else (if (x0.length : Int) = 32 then (some (([] : List (S32)), 5)) else ((impl_Block_54.f t104 bt107.1 (([(⟨x102000, x102001, x102002⟩ : S32)] : List (S32)))).bind fun t113 => (some (t113, 0)))))))
def impl_PutBlock.f (k : Nat) (l0 : List (S32)) (a1_0 : ByteArray) (a1_1 : ByteArray) (a1_2 : ByteArray) : Option ((List (S32)) × Int) := (impl_ValidBlocks.f k l0).bind fun t102 => (if t102 = true then ((impl_ValidBlock.f k a1_0 a1_1 a1_2).bind fun t103 => (impl_PutBlock.j0 k l0 (!t103) a1_0 a1_1 a1_2)) else (impl_PutBlock.j0 k l0 true a1_0 a1_1 a1_2))
theorem impl_PutBlock.mono_l : ∀ k, (∀ y0 y1 y2 y3 y4, LeO (impl_PutBlock.j0 k y0 y1 y2 y3 y4) (impl_PutBlock.j0 (k + 1) y0 y1 y2 y3 y4))
  | 0 => fun _ _ _ _ _ r h => by simp [impl_PutBlock.j0] at h
  | k + 1 => by
    have ih0 := impl_PutBlock.mono_l k
    · intro y0 y1 y2 y3 y4
      unfold impl_PutBlock.j0
      repeat' first
      | (with_reducible exact ih0 _ _ _ _ _)
      | (with_reducible exact impl_Block_49.mono _ _ _ _ _)
      | (with_reducible exact impl_ValidBlock.mono _ _ _ _)
      | (with_reducible exact impl_ValidBlocks.mono _ _)
      | (with_reducible exact LeO.refl _)
      | (with_reducible exact LeO.none _)
      | (with_reducible refine LeO.ite ?_ ?_)
      | (with_reducible refine LeO.bind ?_ (fun _ => ?_))
      | exact ih0 _ _ _ _ _
      | exact impl_Block_49.mono _ _ _ _ _
      | exact impl_ValidBlock.mono _ _ _ _
      | exact impl_ValidBlocks.mono _ _
      | exact LeO.none _
      | refine LeO.ite ?_ ?_
      | refine LeO.bind ?_ (fun _ => ?_)
theorem impl_PutBlock.mono : ∀ a0 a1 a2 a3 k, LeO (impl_PutBlock.f k a0 a1 a2 a3) (impl_PutBlock.f (k + 1) a0 a1 a2 a3) := by
  intro a0 a1 a2 a3 k
  have ih0 := impl_PutBlock.mono_l k
  unfold impl_PutBlock.f
  repeat' first
      | (with_reducible exact ih0 _ _ _ _ _)
      | (with_reducible exact impl_Block_49.mono _ _ _ _ _)
      | (with_reducible exact impl_ValidBlock.mono _ _ _ _)
      | (with_reducible exact impl_ValidBlocks.mono _ _)
      | (with_reducible exact LeO.refl _)
      | (with_reducible exact LeO.none _)
      | (with_reducible refine LeO.ite ?_ ?_)
      | (with_reducible refine LeO.bind ?_ (fun _ => ?_))
      | exact ih0 _ _ _ _ _
      | exact impl_Block_49.mono _ _ _ _ _
      | exact impl_ValidBlock.mono _ _ _ _
      | exact impl_ValidBlocks.mono _ _
      | exact LeO.none _
      | refine LeO.ite ?_ ?_
      | refine LeO.bind ?_ (fun _ => ?_)
set_option maxHeartbeats 8000000 in
set_option maxRecDepth 100000 in
theorem impl_PutBlock.calls (k : Nat) (A0 : Option Addr) (c0 : Nat) (l0 : List (S32)) (a1_0 : ByteArray) (a1_1 : ByteArray) (a1_2 : ByteArray) (r1 : List (S32)) (r2 : Int) (w : World) (hr0 : Kd.C k32 w A0 l0.length l0) (hc0 : l0.length ≤ c0) (h : impl_PutBlock.f k l0 a1_0 a1_1 a1_2 = some (r1, r2)) :
    Calls Try.prog 35 #[.slice A0 l0.length c0, .agg #[.string a1_0, .string a1_1, .string a1_2]] w fun e w' => ∃ v0_ : Value, e = .returned (.tuple #[v0_, .int .i64 r2]) ∧ Kd.R k32 32 w' w.heap.size (fun _ => True) v0_ r1 ∧ Below w.heap.size w w' := by
  have hu32 := Try.underlying32
  have HR0 := Aside0.mk hr0
  have HC0 := Aside0.mk hc0
  clear hr0 hc0
  have HB := Aside0.mk (Below.refl w.heap.size w)
  have H : ((impl_ValidBlocks.f k l0).bind fun t102 => (if t102 = true then ((impl_ValidBlock.f k a1_0 a1_1 a1_2).bind fun t103 => (impl_PutBlock.j0 k l0 (!t103) a1_0 a1_1 a1_2)) else (impl_PutBlock.j0 k l0 true a1_0 a1_1 a1_2))) = some (r1, r2) := h
  clear h
  have HC3 := Aside0.mk H
  clear H
  go_enter Try.func35, Try.ntmps35
  go_upto_region 1 with (first | ((with_reducible refine gate_dst (N := 3) rfl ?_); refine box_event ?hg (N := 3) ?hd (cs := #[.string a1_0, .string a1_1, .string a1_2]) (t := 32) ?hr ?_; (case hd => rfl); (case hg => rfl); (case hr => first | (go_simp; done) | (go_simp; rfl)); intro gb101 hg w4 hbox hb; have n0_ := Aside0.mk (below_step (by repeat (first | (with_reducible first | exact HB.out | apply below_alloc | apply pw_below_drewN | apply below_drew1) | exact HB.out)) hb); have n1_ := Aside0.mk (hbox); have n2_ := Aside0.mk ((by rw [hg]; exact (below_size (by repeat (first | (with_reducible first | exact HB.out | apply below_alloc | apply pw_below_drewN | apply below_drew1) | exact HB.out))) : w.heap.size ≤ gb101)); have n3_ := Aside0.mk ((by rw [hg]; exact (below_size (by repeat (first | (with_reducible first | exact HB.out | apply below_alloc | apply pw_below_drewN | apply below_drew1) | exact HB.out))) : w.heap.size ≤ gb101)); clear HB; have HB := n0_; have BK101 := n1_; have GW101 := n2_; have GE101 := n3_; clear n0_ n1_ n2_ n3_; clear hb hbox hg))
  (try simp only [Act.put, List.setIfInBounds_toArray, List.set_cons_zero, List.set_cons_succ])
  go_cut [16] (fun v16 wc => ∃ (kq : Nat) (x16_2 : Bool), v16 = .bool x16_2 ∧ Aside0 (impl_PutBlock.j0 kq l0 x16_2 a1_0 a1_1 a1_2 = some (r1, r2)) ∧ Aside0 (kq ≤ k) ∧ Aside0 (wc.heap[gb101]? = some (.cells #[.string a1_0, .string a1_1, .string a1_2] 32 (0, 0))) ∧ Aside0 (Below w.heap.size w wc))
  case first =>
    have H := HC3.out
    clear HC3
    replace H := Option.bind_eq_some_iff.mp H
    obtain ⟨t102, A50, H⟩ := H
    replace H : (if t102 = true then ((impl_ValidBlock.f k a1_0 a1_1 a1_2).bind fun t103 => (impl_PutBlock.j0 k l0 (!t103) a1_0 a1_1 a1_2)) else (impl_PutBlock.j0 k l0 true a1_0 a1_1 a1_2)) = some (r1, r2) := H
    have A5 := Aside0.mk A50
    clear A50
    by_cases c6 : t102 = true
    · subst c6
      have H1 : ((impl_ValidBlock.f k a1_0 a1_1 a1_2).bind fun t103 => (impl_PutBlock.j0 k l0 (!t103) a1_0 a1_1 a1_2)) = some (r1, r2) := by rw [if_pos rfl] at H; exact H
      clear H
      have H := H1
      clear H1
      replace H := Option.bind_eq_some_iff.mp H
      obtain ⟨t103, A70, H⟩ := H
      replace H : (impl_PutBlock.j0 k l0 (!t103) a1_0 a1_1 a1_2) = some (r1, r2) := H
      have A7 := Aside0.mk A70
      clear A70
      have H' := Aside0.mk H
      clear H
      go_wp2_with (first | ((with_reducible refine gate_callee (f := 22) rfl ?_); refine goesL_ (some 10) rfl rfl Try.func22 (by kernel_rfl) rfl #[.slice A0 l0.length c0] rfl (by (try simp only [List.map_toArray, List.map_cons, List.map_nil]); first | done | rfl | (simp only [List.length_drop, List.length_take]; rfl)) ?_; (with_reducible refine (impl_ValidBlocks.calls k _ _ l0 true _ ?side1 ?side2 A5.out).mono ?_); (case side1 => repeat (first | exact (Kd.C_below HR0.out HB.out) | (with_reducible refine Kd.C_alloc ?_ _) | (with_reducible refine Kd.C_drewN ?_ _) | (with_reducible refine Kd.C_drew ?_))); (case side2 => exact HC0.out); rintro e w8 ⟨rfl, hb⟩; refine ⟨_, rfl, ?_⟩; have n0_ := Aside0.mk (blk_below (g := gb101) (o := .cells #[.string a1_0, .string a1_1, .string a1_2] 32 (0, 0)) (by (with_reducible repeat (first | refine blk_drewN ?_ _ | refine blk_drew ?_ | refine blk_alloc ?_ _)); exact BK101.out) hb); have n1_ := Aside0.mk (below_step (by repeat (first | (with_reducible first | exact HB.out | apply below_alloc | apply pw_below_drewN | apply below_drew1 | refine below_set ?_ GE101.out) | exact HB.out)) hb); clear BK101; clear HB; have BK101 := n0_; have HB := n1_; clear n0_ n1_; (try clear hb); (try clear hb2); (try clear hk); (try clear hi); have hcz9_0 : w8.cell? ⟨gb101, 0, none⟩ = some (.string a1_0) := (blk_cell BK101.out 0).trans rfl; have hcz9_1 : w8.cell? ⟨gb101, 1, none⟩ = some (.string a1_1) := (blk_cell BK101.out 1).trans rfl; have hcz9_2 : w8.cell? ⟨gb101, 2, none⟩ = some (.string a1_2) := (blk_cell BK101.out 2).trans rfl; have hfz9_0 := blk_frozen BK101.out 0; have hfz9_1 := blk_frozen BK101.out 1; have hfz9_2 := blk_frozen BK101.out 2) | (go_at_call 20; (with_reducible refine (impl_ValidBlock.calls k a1_0 a1_1 a1_2 t103 _ A7.out).mono ?_); rintro e w10 ⟨rfl, hb⟩; have n0_ := Aside0.mk (blk_below (g := gb101) (o := .cells #[.string a1_0, .string a1_1, .string a1_2] 32 (0, 0)) (by (with_reducible repeat (first | refine blk_drewN ?_ _ | refine blk_drew ?_ | refine blk_alloc ?_ _)); exact BK101.out) hb); have n1_ := Aside0.mk (below_step (by repeat (first | (with_reducible first | exact HB.out | apply below_alloc | apply pw_below_drewN | apply below_drew1 | refine below_set ?_ GE101.out) | exact HB.out)) hb); clear BK101; clear HB; have BK101 := n0_; have HB := n1_; clear n0_ n1_; (try clear hb); (try clear hb2); (try clear hk); (try clear hi)))
      go_meet
      case rel => exact ⟨_, (!t103), (by first | rfl | (simp; done) | (simp [*]; done)), H', ⟨by first | omega | exact Nat.le_refl _⟩, ⟨by (with_reducible repeat (first | refine blk_drewN ?_ _ | refine blk_drew ?_ | refine blk_alloc ?_ _)); exact BK101.out⟩, ⟨by repeat (first | (with_reducible first | exact HB.out | apply below_alloc | apply pw_below_drewN | apply below_drew1 | refine below_set ?_ GE101.out) | exact HB.out)⟩⟩
    · replace c6 := Bool.eq_false_iff.mpr c6
      subst c6
      have H1 : (impl_PutBlock.j0 k l0 true a1_0 a1_1 a1_2) = some (r1, r2) := by rw [if_neg (show ¬ (false = true) by decide)] at H; exact H
      clear H
      have H := H1
      clear H1
      have H' := Aside0.mk H
      clear H
      go_wp2_with (first | ((with_reducible refine gate_callee (f := 22) rfl ?_); refine goesL_ (some 10) rfl rfl Try.func22 (by kernel_rfl) rfl #[.slice A0 l0.length c0] rfl (by (try simp only [List.map_toArray, List.map_cons, List.map_nil]); first | done | rfl | (simp only [List.length_drop, List.length_take]; rfl)) ?_; (with_reducible refine (impl_ValidBlocks.calls k _ _ l0 false _ ?side1 ?side2 A5.out).mono ?_); (case side1 => repeat (first | exact (Kd.C_below HR0.out HB.out) | (with_reducible refine Kd.C_alloc ?_ _) | (with_reducible refine Kd.C_drewN ?_ _) | (with_reducible refine Kd.C_drew ?_))); (case side2 => exact HC0.out); rintro e w11 ⟨rfl, hb⟩; refine ⟨_, rfl, ?_⟩; have n0_ := Aside0.mk (blk_below (g := gb101) (o := .cells #[.string a1_0, .string a1_1, .string a1_2] 32 (0, 0)) (by (with_reducible repeat (first | refine blk_drewN ?_ _ | refine blk_drew ?_ | refine blk_alloc ?_ _)); exact BK101.out) hb); have n1_ := Aside0.mk (below_step (by repeat (first | (with_reducible first | exact HB.out | apply below_alloc | apply pw_below_drewN | apply below_drew1 | refine below_set ?_ GE101.out) | exact HB.out)) hb); clear BK101; clear HB; have BK101 := n0_; have HB := n1_; clear n0_ n1_; (try clear hb); (try clear hb2); (try clear hk); (try clear hi)))
      go_meet
      case rel => exact ⟨_, (true), (by first | rfl | (simp; done) | (simp [*]; done)), H', ⟨by first | omega | exact Nat.le_refl _⟩, ⟨by (with_reducible repeat (first | refine blk_drewN ?_ _ | refine blk_drew ?_ | refine blk_alloc ?_ _)); exact BK101.out⟩, ⟨by repeat (first | (with_reducible first | exact HB.out | apply below_alloc | apply pw_below_drewN | apply below_drew1 | refine below_set ?_ GE101.out) | exact HB.out)⟩⟩
  case rest =>
    clear HC3
    try clear c2
    try clear p2
    try clear c3
    try clear c6
    try clear hcz9_0
    try clear hcz9_1
    try clear hcz9_2
    try clear hfz9_0
    try clear hfz9_1
    try clear hfz9_2
    obtain ⟨kq, x16_2, rfl, HA, HJ2, BK101, HB⟩ := hcut
    cases kq with
    | zero => exact absurd HA.out (by simp [impl_PutBlock.j0])
    | succ kj2 =>
      have H := HA.out
      clear HA
      simp only [impl_PutBlock.j0] at H
      by_cases c12 : x16_2 = true
      · subst c12
        have H1 : (some (([] : List (S32)), 1)) = some (r1, r2) := by rw [if_pos rfl] at H; exact H
        clear H
        have H := H1
        clear H1
        simp only [Option.some.injEq, Prod.mk.injEq] at H
        obtain ⟨rfl, rfl⟩ := H
        go_wp2
        go_ret2
        exact ⟨_, by first | rfl | (simp [errW_none, errW_some] <;> rfl) | (simp [*, errW_none, errW_some] <;> rfl), by first | exact Kd.R_nil _ _ _ _ _ | exact Kd.N_nil _ _ _ _ _ | exact Kd.V_nil _ _ _ _ _ | exact Kd.Q_nil _ _ _ _ _ | exact Kd.S_nil _ _ _ _ _, by repeat (first | (with_reducible first | exact HB.out | apply below_alloc | apply pw_below_drewN | apply below_drew1 | refine below_set ?_ GE101.out) | exact HB.out)⟩
      · replace c12 := Bool.eq_false_iff.mpr c12
        subst c12
        have H1 : ((impl_Block_52.f l0).bind fun t104 => ((impl_Block_49.f kj2 l0 a1_0 a1_1 a1_2).bind fun bt107 => (if bt107.2 = true then (if 0 ≤ bt107.1 then (if bt107.1 < (t104.length : Int) then (some ((t104.set (bt107.1 : Int).toNat (⟨a1_0, a1_1, a1_2⟩ : S32)), 0)) else (none)) else (none)) else (if (l0.length : Int) = 32 then (some (([] : List (S32)), 5)) else ((impl_Block_54.f t104 bt107.1 (([(⟨a1_0, a1_1, a1_2⟩ : S32)] : List (S32)))).bind fun t113 => (some (t113, 0))))))) = some (r1, r2) := by rw [if_neg (show ¬ (false = true) by decide)] at H; exact H
        clear H
        have H := H1
        clear H1
        replace H := Option.bind_eq_some_iff.mp H
        obtain ⟨t104, A130, H⟩ := H
        replace H : ((impl_Block_49.f kj2 l0 a1_0 a1_1 a1_2).bind fun bt107 => (if bt107.2 = true then (if 0 ≤ bt107.1 then (if bt107.1 < (t104.length : Int) then (some ((t104.set (bt107.1 : Int).toNat (⟨a1_0, a1_1, a1_2⟩ : S32)), 0)) else (none)) else (none)) else (if (l0.length : Int) = 32 then (some (([] : List (S32)), 5)) else ((impl_Block_54.f t104 bt107.1 (([(⟨a1_0, a1_1, a1_2⟩ : S32)] : List (S32)))).bind fun t113 => (some (t113, 0)))))) = some (r1, r2) := H
        have A13 := Aside0.mk A130
        clear A130
        replace H := Option.bind_eq_some_iff.mp H
        obtain ⟨⟨t107, t108⟩, A140, H⟩ := H
        replace H : (if t108 = true then (if 0 ≤ t107 then (if t107 < (t104.length : Int) then (some ((t104.set (t107 : Int).toNat (⟨a1_0, a1_1, a1_2⟩ : S32)), 0)) else (none)) else (none)) else (if (l0.length : Int) = 32 then (some (([] : List (S32)), 5)) else ((impl_Block_54.f t104 t107 (([(⟨a1_0, a1_1, a1_2⟩ : S32)] : List (S32)))).bind fun t113 => (some (t113, 0))))) = some (r1, r2) := H
        have A14 := Aside0.mk A140
        clear A140
        have HC15 := Aside0.mk H
        clear H
        go_upto_if 30 with (first | ((with_reducible refine gate_callee (f := 52) rfl ?_); refine goesL_ (some 18) rfl rfl Try.func52 (by kernel_rfl) rfl #[.slice A0 l0.length c0] rfl (by (try simp only [List.map_toArray, List.map_cons, List.map_nil]); first | done | rfl | (simp only [List.length_drop, List.length_take]; rfl)) ?_; (with_reducible refine (impl_Block_52.calls _ _ l0 t104 _ ?side1 ?side2 A13.out).mono ?_); (case side1 => repeat (first | exact (Kd.C_below HR0.out HB.out) | (with_reducible refine Kd.C_alloc ?_ _) | (with_reducible refine Kd.C_drewN ?_ _) | (with_reducible refine Kd.C_drew ?_))); (case side2 => exact HC0.out); rintro e w16 ⟨v105, rfl, ho0, hb⟩; refine ⟨_, rfl, ?_⟩; have n0_ := Aside0.mk (Kd.R_lower (Kd.R_newB ho0 (g := gb101) (o := .cells #[.string a1_0, .string a1_1, .string a1_2] 32 (0, 0)) (by (with_reducible repeat (first | refine blk_drewN ?_ _ | refine blk_drew ?_ | refine blk_alloc ?_ _)); exact BK101.out)) (below_size (by repeat (first | (with_reducible first | exact HB.out | apply below_alloc | apply pw_below_drewN | apply below_drew1 | refine below_set ?_ GE101.out) | exact HB.out)))); have n1_ := Aside0.mk (blk_below (g := gb101) (o := .cells #[.string a1_0, .string a1_1, .string a1_2] 32 (0, 0)) (by (with_reducible repeat (first | refine blk_drewN ?_ _ | refine blk_drew ?_ | refine blk_alloc ?_ _)); exact BK101.out) hb); have n2_ := Aside0.mk (below_step (by repeat (first | (with_reducible first | exact HB.out | apply below_alloc | apply pw_below_drewN | apply below_drew1 | refine below_set ?_ GE101.out) | exact HB.out)) hb); clear BK101; clear HB; have HO106 := n0_; have BK101 := n1_; have HB := n2_; clear n0_ n1_ n2_; (try clear hb); (try clear hb2); (try clear hk); (try clear hi); (try clear ho0); have hcz17_0 : w16.cell? ⟨gb101, 0, none⟩ = some (.string a1_0) := (blk_cell BK101.out 0).trans rfl; have hcz17_1 : w16.cell? ⟨gb101, 1, none⟩ = some (.string a1_1) := (blk_cell BK101.out 1).trans rfl; have hcz17_2 : w16.cell? ⟨gb101, 2, none⟩ = some (.string a1_2) := (blk_cell BK101.out 2).trans rfl; have hfz17_0 := blk_frozen BK101.out 0; have hfz17_1 := blk_frozen BK101.out 1; have hfz17_2 := blk_frozen BK101.out 2) | ((with_reducible refine gate_callee (f := 49) rfl ?_); refine goesL_ (some 22) rfl rfl Try.func49 (by kernel_rfl) rfl #[.slice A0 l0.length c0, .agg #[.string a1_0, .string a1_1, .string a1_2], .func (.func 47) #[] #[]] rfl (by (try simp only [List.map_toArray, List.map_cons, List.map_nil]); first | done | rfl | (simp only [List.length_drop, List.length_take]; rfl)) ?_; (with_reducible refine (impl_Block_49.calls kj2 _ _ l0 a1_0 a1_1 a1_2  t107 t108 _ ?side1 ?side2 A14.out).mono ?_); (case side1 => repeat (first | exact (Kd.C_below HR0.out HB.out) | (with_reducible refine Kd.C_alloc ?_ _) | (with_reducible refine Kd.C_drewN ?_ _) | (with_reducible refine Kd.C_drew ?_))); (case side2 => exact HC0.out); rintro e w18 ⟨rfl, hb⟩; refine ⟨_, rfl, ?_⟩; have n0_ := Aside0.mk (Kd.R_below (by (with_reducible repeat (first | apply Kd.R_alloc | apply Kd.R_drewN | apply Kd.R_drew)); exact HO106.out) hb); have n1_ := Aside0.mk (blk_below (g := gb101) (o := .cells #[.string a1_0, .string a1_1, .string a1_2] 32 (0, 0)) (by (with_reducible repeat (first | refine blk_drewN ?_ _ | refine blk_drew ?_ | refine blk_alloc ?_ _)); exact BK101.out) hb); have n2_ := Aside0.mk (below_step (by repeat (first | (with_reducible first | exact HB.out | apply below_alloc | apply pw_below_drewN | apply below_drew1 | refine below_set ?_ GE101.out) | exact HB.out)) hb); clear HO106; clear BK101; clear HB; have HO106 := n0_; have BK101 := n1_; have HB := n2_; clear n0_ n1_ n2_; (try clear hb); (try clear hb2); (try clear hk); (try clear hi)))
        (try simp only [Act.put, List.setIfInBounds_toArray, List.set_cons_zero, List.set_cons_succ])
        have H := HC15.out
        clear HC15
        by_cases c19 : t108 = true
        · subst c19
          have H1 : (if 0 ≤ t107 then (if t107 < (t104.length : Int) then (some ((t104.set (t107 : Int).toNat (⟨a1_0, a1_1, a1_2⟩ : S32)), 0)) else (none)) else (none)) = some (r1, r2) := by rw [if_pos rfl] at H; exact H
          clear H
          have H := H1
          clear H1
          by_cases c20 : 0 ≤ t107
          · rw [if_pos c20] at H
            have c20b0 : decide (0 ≤ t107) = true := decide_eq_true c20
            clear c20
            (first | rw [c20b0] | (simp only [i64_w, i32_w]; rw [c20b0]) | (simp only [c20b2, Bool.not_true, Bool.not_false]) | (simp only [c20b1, Bool.not_true, Bool.not_false]) | (simp only [c20b0, Bool.not_true, Bool.not_false]) | skip)
            by_cases c21 : t107 < (t104.length : Int)
            · rw [if_pos c21] at H
              have c21b0 : decide (t107 < (t104.length : Int)) = true := decide_eq_true c21
              clear c21
              obtain ⟨y109, hy109⟩ : ∃ y_ : List (S32), y_ = (t104.set (t107 : Int).toNat (⟨a1_0, a1_1, a1_2⟩ : S32)) := ⟨_, rfl⟩
              replace H : (some (y109, 0)) = some (r1, r2) := by first | (rw [hy109]; with_reducible exact H) | (have H2_ := (Option.bind_some _ _).symm.trans H; rw [hy109]; with_reducible exact H2_) | (have H2_ := (Option.bind_some _ _).symm.trans H; with_reducible exact H2_) | with_reducible exact H | (rw [hy109]; exact H) | exact H
              have Ny109 := Aside0.mk hy109
              clear hy109
              simp only [Option.some.injEq, Prod.mk.injEq] at H
              obtain ⟨rfl, rfl⟩ := H
              have hcz23_0 : w18.cell? ⟨gb101, 0, none⟩ = some (.string a1_0) := (blk_cell BK101.out 0).trans rfl
              have hcz23_1 : w18.cell? ⟨gb101, 1, none⟩ = some (.string a1_1) := (blk_cell BK101.out 1).trans rfl
              have hcz23_2 : w18.cell? ⟨gb101, 2, none⟩ = some (.string a1_2) := (blk_cell BK101.out 2).trans rfl
              have hfz23_0 := blk_frozen BK101.out 0
              have hfz23_1 := blk_frozen BK101.out 1
              have hfz23_2 := blk_frozen BK101.out 2
              have p22 : 0 ≤ (t107 : Int) := of_decide_eq_true (by first | (with_reducible assumption) | assumption)
              have q22 : (t107 : Int) < ((t104.length : Int) : Int) := of_decide_eq_true (by first | (with_reducible assumption) | assumption)
              obtain ⟨go22, co22, eo22, gb22, gl22, cl22, HG22⟩ := Kd.R_form HO106.out (by omega)
              (first | cases eo22 | (injection eo22 with ea_ en_ ec_; (first | subst ea_ | (injection ea_ with ea_; subst ea_)); subst ec_; clear en_))
              have GB22 := Aside0.mk gb22
              have GG22 := Aside0.mk HG22
              clear gb22 gl22 HG22
              obtain ⟨ce22, hcl22, hM22, hcc22, hfr22⟩ := Kd.R_elem HO106.out z32 (t107 : Int) p22 q22
              obtain rfl := k32_openM hM22
              have hx22_0 : w18.cell? ⟨go22, (t107 : Int).toNat * 3, none⟩ = some (.string ((rd_T32 t104 t107).f0)) := hcc22 0 _ rfl
              have hx22_1 : w18.cell? ⟨go22, (t107 : Int).toNat * 3 + 1, none⟩ = some (.string ((rd_T32 t104 t107).f1)) := hcc22 1 _ rfl
              have hx22_2 : w18.cell? ⟨go22, (t107 : Int).toNat * 3 + 2, none⟩ = some (.string ((rd_T32 t104 t107).f2)) := hcc22 2 _ rfl
              have hf22_0 : w18.frozen? ⟨go22, (t107 : Int).toNat * 3, none⟩ = false := hfr22 0
              have hf22_1 : w18.frozen? ⟨go22, (t107 : Int).toNat * 3 + 1, none⟩ = false := hfr22 1
              have hf22_2 : w18.frozen? ⟨go22, (t107 : Int).toNat * 3 + 2, none⟩ = false := hfr22 2
              clear hcl22 hcc22 hfr22 hM22
              replace p22 := eq_true p22
              replace q22 := eq_true q22
              have n_ := Aside0.mk (Kd.R_mono (ok' := (fun k_ => k_ ≠ gb101)) HO106.out (fun k_ hk => hk.2))
              clear HO106
              have HO106 := n_
              clear n_
              have HX24 := Aside0.mk (show Kd.R k32 32 w18 w.heap.size (fun k_ => k_ ≠ gb101) (.slice (some ⟨go22, 0, none⟩) t104.length co22) t104 from (by (with_reducible repeat (first | apply Kd.R_alloc | apply Kd.R_drewN | apply Kd.R_drew)); exact HO106.out))
              obtain ⟨ce24, hcl24, hM24, hcc24, hfr24⟩ := Kd.R_elem HX24.out z32 (t107 : Int) (of_decide_eq_true (by first | (with_reducible assumption) | assumption)) (by have h_ : (t107 : Int) < ((t104.length : Int) : Int) := of_decide_eq_true (by first | (with_reducible assumption) | assumption); first | exact h_ | (have e_ := (Kd.R_reads' HO106.out).1; omega) | simpa using h_)
              obtain rfl := k32_openM hM24
              have HP24 := Kd.R_seg HX24.out (t107 : Int) (of_decide_eq_true (by first | (with_reducible assumption) | assumption)) (by have h_ : (t107 : Int) < ((t104.length : Int) : Int) := of_decide_eq_true (by first | (with_reducible assumption) | assumption); first | exact h_ | (have e_ := (Kd.R_reads' HO106.out).1; omega) | simpa using h_) (seg := [.string a1_0, .string a1_1, .string a1_2]) (j := 0) hcl24 hcc24 (show 3 ≤ 3 from by decide) (x' := (⟨a1_0, a1_1, a1_2⟩ : S32)) (k32_mkM _ _ _ (⟨a1_0, a1_1, a1_2⟩ : S32) ) (fun _ hk => hk)
              have hx24_0 := hcc24 0 _ rfl
              (try simp only [show (k32).sz = 3 from rfl, Nat.mul_one, Nat.add_zero] at hx24_0)
              have hf24_0 := hfr24 0
              (try simp only [show (k32).sz = 3 from rfl, Nat.mul_one, Nat.add_zero] at hf24_0)
              have hx24_1 := hcc24 1 _ rfl
              (try simp only [show (k32).sz = 3 from rfl, Nat.mul_one, Nat.add_zero] at hx24_1)
              have hf24_1 := hfr24 1
              (try simp only [show (k32).sz = 3 from rfl, Nat.mul_one, Nat.add_zero] at hf24_1)
              have hx24_2 := hcc24 2 _ rfl
              (try simp only [show (k32).sz = 3 from rfl, Nat.mul_one, Nat.add_zero] at hx24_2)
              have hf24_2 := hfr24 2
              (try simp only [show (k32).sz = 3 from rfl, Nat.mul_one, Nat.add_zero] at hf24_2)
              clear hcl24 hcc24 hfr24 hM24
              go_wp2_with (first | ((with_reducible refine gate_store (t := 32) (p := 35) rfl ?_); refine store_event (t := 32) (p := 35) (v := ?vo_w25) (w1 := (((w18.setCell ⟨go22, (t107 : Int).toNat * 3, none⟩ (.string a1_0)).setCell ⟨go22, (t107 : Int).toNat * 3 + 1, none⟩ (.string a1_1)).setCell ⟨go22, (t107 : Int).toNat * 3 + 2, none⟩ (.string a1_2))) ?hg ?ho ?hn ?hr ?_; (case ho => rfl); (case hg => rfl); (case hn => rfl); (case hr => first | (go_simp; done) | (go_simp; rfl)); intro w25 hw; have hg : w18.grownBy w25 (some go22) := (by rw [hw]; exact HP24.2); have hp_ : Kd.R k32 32 w25 w.heap.size (fun k_ => k_ ≠ gb101) (.slice (some ⟨go22, 0, none⟩) t104.length co22) y109 := (by rw [hw, Ny109.out]; exact HP24.1); clear HP24; have n0_ := Aside0.mk (blk_grown (g := gb101) (o := .cells #[.string a1_0, .string a1_1, .string a1_2] 32 (0, 0)) (by (with_reducible repeat (first | refine blk_drewN ?_ _ | refine blk_drew ?_ | refine blk_alloc ?_ _)); exact BK101.out) hg (Kd.R_away HO106.out (fun _ hk => hk))); have n1_ := Aside0.mk (hp_); have n2_ := Aside0.mk ((by rw [hw]; exact below_set (below_set (below_set (HB.out) GB22.out) GB22.out) GB22.out : Below w.heap.size w w25)); clear BK101; clear HO106; clear HB; have BK101 := n0_; have HO106 := n1_; have HB := n2_; clear n0_ n1_ n2_; clear hg hw hp_))
              go_ret2
              exact ⟨_, by first | rfl | (simp [errW_none, errW_some] <;> rfl) | (simp [*, errW_none, errW_some] <;> rfl), by (with_reducible repeat (first | apply Kd.R_alloc | apply Kd.R_drewN | apply Kd.R_drew)); exact Kd.R_mono HO106.out (fun _ hk => trivial), by repeat (first | (with_reducible first | exact HB.out | apply below_alloc | apply pw_below_drewN | apply below_drew1 | refine below_set ?_ GE101.out) | exact HB.out)⟩
            · rw [if_neg c21] at H
              exact absurd H (by simp)
          · rw [if_neg c20] at H
            exact absurd H (by simp)
        · replace c19 := Bool.eq_false_iff.mpr c19
          subst c19
          have H1 : (if (l0.length : Int) = 32 then (some (([] : List (S32)), 5)) else ((impl_Block_54.f t104 t107 (([(⟨a1_0, a1_1, a1_2⟩ : S32)] : List (S32)))).bind fun t113 => (some (t113, 0)))) = some (r1, r2) := by rw [if_neg (show ¬ (false = true) by decide)] at H; exact H
          clear H
          have H := H1
          clear H1
          by_cases c26 : (l0.length : Int) = 32
          · rw [if_pos c26] at H
            have c26b0 : ((l0.length : Int) == 32) = true := beq_iff_eq.mpr c26
            have c26b1 : ((l0.length : Int) != 32) = false := bne_eq_false_iff_eq.mpr c26
            clear c26
            simp only [Option.some.injEq, Prod.mk.injEq] at H
            obtain ⟨rfl, rfl⟩ := H
            go_wp2
            go_ret2
            exact ⟨_, by first | rfl | (simp [errW_none, errW_some] <;> rfl) | (simp [*, errW_none, errW_some] <;> rfl), by first | exact Kd.R_nil _ _ _ _ _ | exact Kd.N_nil _ _ _ _ _ | exact Kd.V_nil _ _ _ _ _ | exact Kd.Q_nil _ _ _ _ _ | exact Kd.S_nil _ _ _ _ _, by repeat (first | (with_reducible first | exact HB.out | apply below_alloc | apply pw_below_drewN | apply below_drew1 | refine below_set ?_ GE101.out) | exact HB.out)⟩
          · rw [if_neg c26] at H
            have c26b0 : ((l0.length : Int) == 32) = false := beq_eq_false_iff_ne.mpr c26
            have c26b1 : ((l0.length : Int) != 32) = true := bne_iff_ne.mpr c26
            obtain ⟨y110, hy110⟩ : ∃ y_ : List (S32), y_ = (([(⟨a1_0, a1_1, a1_2⟩ : S32)] : List (S32))) := ⟨_, rfl⟩
            replace H : ((impl_Block_54.f t104 t107 y110).bind fun t113 => (some (t113, 0))) = some (r1, r2) := by first | (rw [hy110]; with_reducible exact H) | (have H2_ := (Option.bind_some _ _).symm.trans H; rw [hy110]; with_reducible exact H2_) | (have H2_ := (Option.bind_some _ _).symm.trans H; with_reducible exact H2_) | with_reducible exact H | (rw [hy110]; exact H) | exact H
            have Ny110 := Aside0.mk hy110
            clear hy110
            replace H := Option.bind_eq_some_iff.mp H
            obtain ⟨t113, A270, H⟩ := H
            replace H : (some (t113, 0)) = some (r1, r2) := H
            have A27 := Aside0.mk A270
            clear A270
            simp only [Option.some.injEq, Prod.mk.injEq] at H
            obtain ⟨rfl, rfl⟩ := H
            have hcz28_0 : w18.cell? ⟨gb101, 0, none⟩ = some (.string a1_0) := (blk_cell BK101.out 0).trans rfl
            have hcz28_1 : w18.cell? ⟨gb101, 1, none⟩ = some (.string a1_1) := (blk_cell BK101.out 1).trans rfl
            have hcz28_2 : w18.cell? ⟨gb101, 2, none⟩ = some (.string a1_2) := (blk_cell BK101.out 2).trans rfl
            have hfz28_0 := blk_frozen BK101.out 0
            have hfz28_1 := blk_frozen BK101.out 1
            have hfz28_2 := blk_frozen BK101.out 2
            go_wp2_with (first | ((with_reducible refine gate_dst (N := 28) rfl ?_); refine Kd.R_lit k32 _ 32 ?hg (N := 28) ?hd (xs := ([(⟨a1_0, a1_1, a1_2⟩ : S32)] : List (S32))) (inner := [.string a1_0, .string a1_1, .string a1_2]) (ok := fun _ => True) (okp := fun _ => True) ?hr ?hp (fun _ hk => hk) trivial (Below.refl _ _) (Nat.le_refl _) (by simp) ?_; (case hd => rfl); (case hg => rfl); (case hr => first | (go_simp; done) | (go_simp; rfl)); (case hp => exact (Reps.c3 (show Kd.M k32 _ _ _ (⟨a1_0, a1_1, a1_2⟩ : S32) [.string a1_0, .string a1_1, .string a1_2] from (k32_mkM _ _ _ (⟨a1_0, a1_1, a1_2⟩ : S32) )) (Reps.none _ _))); intro v111 w29 ho30 hb hg_ hnew_; clear hg_ hnew_; (first | rw [← Ny110.out] at ho30 | (simp only [Int.reduceToNat] at ho30; rw [← Ny110.out] at ho30)); have n0_ := Aside0.mk (Kd.R_elder' (by (with_reducible repeat (first | apply Kd.R_alloc | apply Kd.R_drewN | apply Kd.R_drew)); exact HO106.out) (Kd.R_base ho30) hb); have n1_ := Aside0.mk (Kd.R_lower (Kd.R_newB (Kd.R_new' ho30 (Kd.R_lt (by (with_reducible repeat (first | apply Kd.R_alloc | apply Kd.R_drewN | apply Kd.R_drew)); exact HO106.out))) (g := gb101) (o := .cells #[.string a1_0, .string a1_1, .string a1_2] 32 (0, 0)) (by (with_reducible repeat (first | refine blk_drewN ?_ _ | refine blk_drew ?_ | refine blk_alloc ?_ _)); exact BK101.out)) (below_size (by repeat (first | (with_reducible first | exact HB.out | apply below_alloc | apply pw_below_drewN | apply below_drew1 | refine below_set ?_ GE101.out) | exact HB.out)))); have n2_ := Aside0.mk (blk_below (g := gb101) (o := .cells #[.string a1_0, .string a1_1, .string a1_2] 32 (0, 0)) (by (with_reducible repeat (first | refine blk_drewN ?_ _ | refine blk_drew ?_ | refine blk_alloc ?_ _)); exact BK101.out) hb); have n3_ := Aside0.mk (below_step (by repeat (first | (with_reducible first | exact HB.out | apply below_alloc | apply pw_below_drewN | apply below_drew1 | refine below_set ?_ GE101.out) | exact HB.out)) hb); clear HO106; clear BK101; clear HB; have HO106 := n0_; have HO112 := n1_; have BK101 := n2_; have HB := n3_; clear n0_ n1_ n2_ n3_; clear hb ho30; obtain ⟨Ao31, co31, eo31⟩ := Kd.R_slice HO106.out; subst eo31; obtain ⟨Ao32, co32, eo32⟩ := Kd.R_slice HO112.out; subst eo32) | ((with_reducible refine gate_callee (f := 54) rfl ?_); refine goesL_ (some 29) rfl rfl Try.func54 (by kernel_rfl) rfl #[.slice Ao31 t104.length co31, .int .i64 t107, .slice Ao32 y110.length co32] rfl (by (try simp only [List.map_toArray, List.map_cons, List.map_nil]); first | done | rfl | (simp only [List.length_drop, List.length_take]; rfl)) ?_; (with_reducible refine (impl_Block_54.calls (fun k_ => some k_ = (.slice Ao31 t104.length co31 : Value).ownBlock) (.slice Ao31 t104.length co31) t104 t107 (fun k_ => some k_ = (.slice Ao32 y110.length co32 : Value).ownBlock) (.slice Ao32 y110.length co32) y110 t113 w _ ?side1 ?side2 ?side3 ?side4 ?side5 A27.out).mono ?_); (case side1 => repeat (first | (with_reducible first | exact HB.out | apply below_alloc | apply pw_below_drewN | apply below_drew1 | refine below_set ?_ GE101.out) | exact HB.out)); (case side2 => exact Kd.R_tight rfl HO106.out); (case side3 => exact fun k_ e_ => (HO106.out.1 k_ e_.symm).2); (case side4 => exact Kd.R_tight rfl HO112.out); (case side5 => exact fun k_ e_ => (HO112.out.1 k_ e_.symm).1.2); rintro e w33 ⟨v114, rfl, ho0, hb, hkp⟩; refine ⟨_, rfl, ?_⟩; have n0_ := Aside0.mk (blk_kept (by (with_reducible repeat (first | refine blk_drewN ?_ _ | refine blk_drew ?_ | refine blk_alloc ?_ _)); exact BK101.out) hkp (fun hs_ => Or.elim hs_ (fun e_ => (fun e_ => (Kd.R_away HO106.out (fun _ hk => hk.1.2)) e_) e_) (fun e_ => (fun e_ => (Kd.R_away HO112.out (fun _ hk => hk.2)) e_) e_))); have n1_ := Aside0.mk (Kd.R_mono (ok' := fun k_ => k_ ≠ gb101) ho0 (fun k_ hk_ => Or.elim hk_ (fun hs_ => Or.elim hs_ (fun hs_ => fun e_ => (Kd.R_away HO106.out (fun _ hk => hk.1.2)) (by rw [← e_]; exact hs_)) (fun hs_ => fun e_ => (Kd.R_away HO112.out (fun _ hk => hk.2)) (by rw [← e_]; exact hs_))) (fun hn_ => (Kd.freshB (g := gb101) (o := .cells #[.string a1_0, .string a1_1, .string a1_2] 32 (0, 0)) (by (with_reducible repeat (first | refine blk_drewN ?_ _ | refine blk_drew ?_ | refine blk_alloc ?_ _)); exact BK101.out) k_ hn_)))); have n2_ := Aside0.mk (hb); clear BK101; clear HB; clear HO106; clear HO112; have BK101 := n0_; have HO115 := n1_; have HB := n2_; clear n0_ n1_ n2_; (try clear hb); (try clear hkp); (try clear ho0)))
            go_ret2
            exact ⟨_, by first | rfl | (simp [errW_none, errW_some] <;> rfl) | (simp [*, errW_none, errW_some] <;> rfl), by (with_reducible repeat (first | apply Kd.R_alloc | apply Kd.R_drewN | apply Kd.R_drew)); exact Kd.R_mono HO115.out (fun _ hk => trivial), by repeat (first | (with_reducible first | exact HB.out | apply below_alloc | apply pw_below_drewN | apply below_drew1 | refine below_set ?_ GE101.out) | exact HB.out)⟩

end Go.Proofs.Ytckboiphlhhckaa.Q
/- Own lemmas: the laws of a block named, of the blocks of a kind, of a block dropped, of a block put in. -/
namespace Go.Proofs.Ytckboiphlhhckaa.Q
open Go.RowKit Go.Proofs.YtckboiphlhhckaaW.PrintWords Go.Proofs.YtckboiphlhhckaaW.PrintLast Go.Proofs.YtckboiphlhhckaaW.PrintMore
theorem ok_loop (m : List Blk) (hl : (m.length : Int) ≤ 1048576) : ∀ (d i k : Nat), i + d = m.length → spec_l29Ok.l0 k m i = some true → m.length ≤ 32 ∧ ∀ (j : Nat), i ≤ j → 0 < j → ∀ (hj : j < m.length), cB (ckB (m[j - 1]'(by omega))) (ckB m[j]) < 0 := by
  intro d
  induction d with
  | zero =>
    intro i k h1 h
    cases k with
    | zero => simp [spec_l29Ok.l0] at h
    | succ k =>
      simp only [spec_l29Ok.l0] at h
      rw [if_neg (by omega)] at h
      have h := Option.some.inj h
      exact ⟨by have := of_decide_eq_true h; omega, fun j h2 _ hj => by omega⟩
  | succ d ih =>
    intro i k h1 h
    cases k with
    | zero => simp [spec_l29Ok.l0] at h
    | succ k =>
      simp only [spec_l29Ok.l0] at h
      rw [if_pos (by omega), if_pos (by omega)] at h
      obtain ⟨t, _, h⟩ := Option.bind_eq_some_iff.1 h
      cases t with
      | false => simp at h
      | true =>
        rw [if_pos rfl] at h
        by_cases hi : i = 0
        · subst hi
          rw [if_neg (by omega), wr64s 0 (by omega)] at h
          obtain ⟨a1, a2⟩ := ih 1 k (by omega) h
          exact ⟨a1, fun j h2 h3 hj => a2 j (by omega) h3 hj⟩
        · have e : wrap64 ((i : Int) - 1) = ((i - 1 : Nat) : Int) := by rw [wr64 (by omega) (by omega)]; omega
          rw [if_pos (by omega), e, if_pos (by omega), if_pos (by omega), rdi_Block m (i - 1) (by omega), rdi_Block m i (by omega), bfr_ev] at h
          simp only [Option.bind_some] at h
          by_cases hc : cB (ckB (m[i - 1]'(by omega))) (ckB (m[i]'(by omega))) < 0
          · rw [if_pos (by simpa using hc), wr64s i (by omega)] at h
            obtain ⟨a1, a2⟩ := ih (i + 1) k (by omega) h
            refine ⟨a1, fun j h2 h3 hj => ?_⟩
            rcases Nat.lt_or_eq_of_le h2 with g | g
            · exact a2 j (by omega) h3 hj
            · subst g; exact hc
          · rw [if_neg (by simpa using hc)] at h
            simp at h
theorem ok_ev (m : List Blk) (hl : (m.length : Int) ≤ 1048576) (hw : ∀ y ∈ m, (y.f2.size : Int) ≤ 1048576) : ∃ b, Ev (fun k => spec_l29Ok.f k m) b ∧ Ev (fun k => impl_ValidBlocks.f k m) b ∧ (b = true → m.length ≤ 32 ∧ ∀ t, Rsg (fun x => cB (ckB x) t) m) := by
  obtain ⟨b, hb⟩ := validBS_ev m hl hw
  refine ⟨b, ⟨4000001, fun k hk => (hb k (by omega)).1⟩, ⟨4000001, fun k hk => (hb k (by omega)).2⟩, fun h => ?_⟩
  subst h
  have h1 := (hb 4000001 (by omega)).1
  simp only [spec_l29Ok.f] at h1
  obtain ⟨a1, a2⟩ := ok_loop m hl m.length 0 4000001 (by omega) h1
  refine ⟨a1, fun t => rsg_of cB_ord ckB (fun i hi => ?_) t⟩
  exact a2 (i + 1) (by omega) (by omega) hi
theorem dropL (l : List Blk) (i : Nat) : l.eraseIdx i = l.take i ++ l.drop (i + 1) := List.eraseIdx_eq_take_drop_succ l i
/-- One block by its name. -/
theorem named_ev (m : List Blk) (hl : (m.length : Int) ≤ 1048576) (hw : ∀ y ∈ m, (y.f2.size : Int) ≤ 1048576) (u v : ByteArray) : ∃ r, Ev (fun k => spec_BlockNamed.f k m u v) r ∧ Ev (fun k => impl_BlockNamed.f k m u v) r := by
  obtain ⟨b, e1, e2, hb⟩ := ok_ev m hl hw
  cases b with
  | false =>
    refine ⟨((⟨#[]⟩ : ByteArray), 1), ?_, ?_⟩
    · simp only [spec_BlockNamed.f]; exact Ev_b e1 (Ev_f (by decide) (Ev_n rfl))
    · simp only [impl_BlockNamed.f]; exact Ev_b e2 (Ev_f (by decide) (Ev_n rfl))
  | true =>
    obtain ⟨_, hr⟩ := hb rfl
    have f1 := find_ev m hl u v (hr _)
    have f2 := bs_ev m hl u v (⟨#[]⟩ : ByteArray) (hr _)
    cases hf : fnd (fun x => cB (ckB x) (u.data.toList, v.data.toList)) m with
    | false =>
      rw [hf, if_neg (by decide)] at f1
      rw [hf] at f2
      refine ⟨((⟨#[]⟩ : ByteArray), 3), ?_, ?_⟩
      · simp only [spec_BlockNamed.f]; exact Ev_b e1 (Ev_t rfl (Ev_b f1 (Ev_t (by decide) (Ev_n rfl))))
      · simp only [impl_BlockNamed.f]; exact Ev_b e2 (Ev_t rfl (Ev_b f2 (Ev_f (by simp) (Ev_n rfl))))
    | true =>
      obtain ⟨hp, _⟩ := fnd_t hf
      rw [hf, if_pos rfl] at f1
      rw [hf] at f2
      refine ⟨((m[plc (fun x => cB (ckB x) (u.data.toList, v.data.toList)) m]'hp).f2, 0), ?_, ?_⟩
      · simp only [spec_BlockNamed.f]
        exact Ev_b e1 (Ev_t rfl (Ev_b f1 (Ev_f (by omega) (Ev_t (by omega) (Ev_t (by omega) (Ev_n (by rw [rdi_Block m _ hp])))))))
      · simp only [impl_BlockNamed.f]
        exact Ev_b e2 (Ev_t rfl (Ev_b f2 (Ev_t rfl (Ev_t (by show (0 : Int) ≤ _; omega) (Ev_t (by show _ < (m.length : Int); omega) (Ev_n (by simp only; rw [rdi_Block m _ hp])))))))
/-- A block dropped. -/
theorem drop_ev (m : List Blk) (hl : (m.length : Int) ≤ 1048576) (hw : ∀ y ∈ m, (y.f2.size : Int) ≤ 1048576) (u v : ByteArray) : ∃ r c, r.length ≤ 1048576 ∧ Ev (fun k => spec_DropBlock.f k m u v) (r, c) ∧ Ev (fun k => impl_DropBlock.f k m u v) (r, c) := by
  obtain ⟨b, e1, e2, hb⟩ := ok_ev m hl hw
  cases b with
  | false =>
    refine ⟨[], 1, by simp, ?_, ?_⟩
    · simp only [spec_DropBlock.f]; exact Ev_b e1 (Ev_f (by decide) (Ev_n rfl))
    · simp only [impl_DropBlock.f]; exact Ev_b e2 (Ev_f (by decide) (Ev_n rfl))
  | true =>
    obtain ⟨hn, hr⟩ := hb rfl
    have f1 := find_ev m hl u v (hr _)
    have f2 := bs_ev m hl u v (⟨#[]⟩ : ByteArray) (hr _)
    cases hf : fnd (fun x => cB (ckB x) (u.data.toList, v.data.toList)) m with
    | false =>
      rw [hf, if_neg (by decide)] at f1
      rw [hf] at f2
      refine ⟨[], 3, by simp, ?_, ?_⟩
      · simp only [spec_DropBlock.f]; exact Ev_b e1 (Ev_t rfl (Ev_b f1 (Ev_t (by decide) (Ev_n rfl))))
      · simp only [impl_DropBlock.f]; exact Ev_b e2 (Ev_t rfl (Ev_b f2 (Ev_f (by simp) (Ev_n rfl))))
    | true =>
      obtain ⟨hp, _⟩ := fnd_t hf
      rw [hf, if_pos rfl] at f1
      rw [hf] at f2
      generalize plc (fun x => cB (ckB x) (u.data.toList, v.data.toList)) m = p at hp f1 f2
      refine ⟨m.take p ++ m.drop (p + 1), 0, by simp; omega, ?_, ?_⟩
      · simp only [spec_DropBlock.f]
        refine Ev_b e1 (Ev_t rfl (Ev_b f1 (Ev_f (by omega) (Ev_s (Ev_t (by omega) (Ev_t (by omega) (Ev_s (Ev_t (by simp; omega) (Ev_s ?_)))))))))
        rw [wr64s p (by omega)]
        refine Ev_t (by omega) (Ev_t (by omega) (Ev_s (Ev_t (by simp; omega) (Ev_n ?_))))
        rw [List.nil_append]
        rfl
      · simp only [impl_DropBlock.f]
        refine Ev_b e2 (Ev_t rfl (Ev_b f2 (Ev_t rfl ?_)))
        refine Ev_b (a := m) (Ev_c (by unfold impl_Block_52.f; rw [if_pos (by omega)])) ?_
        rw [wr64s p (by omega)]
        refine Ev_b (a := m.take p ++ m.drop (p + 1)) (Ev_c ?_) (Ev_n rfl)
        unfold impl_Block_51.f
        rw [if_pos ⟨by omega, by omega, by omega⟩, Int.toNat_natCast, dropL m p]
/-- A block put in. -/
theorem putin_ev (m : List Blk) (hl : (m.length : Int) ≤ 1048576) (hw : ∀ y ∈ m, (y.f2.size : Int) ≤ 1048576) (b : Blk) (hbw : (b.f2.size : Int) ≤ 1048576) : ∃ r c, r.length ≤ 1048576 ∧ Ev (fun k => spec_PutBlock.f k m b.f0 b.f1 b.f2) (r, c) ∧ Ev (fun k => impl_PutBlock.f k m b.f0 b.f1 b.f2) (r, c) := by
  obtain ⟨ok, e1, e2, hok⟩ := ok_ev m hl hw
  cases ok with
  | false =>
    refine ⟨[], 1, by simp, ?_, ?_⟩
    · simp only [spec_PutBlock.f]; refine Ev_b e1 (Ev_f (by decide) (Ev_suc ?_)); simp only [spec_PutBlock.j0]; exact Ev_t (by trivial) (Ev_n rfl)
    · simp only [impl_PutBlock.f]; refine Ev_b e2 (Ev_f (by decide) (Ev_suc ?_)); simp only [impl_PutBlock.j0]; exact Ev_t (by trivial) (Ev_n rfl)
  | true =>
    obtain ⟨hn, hr⟩ := hok rfl
    obtain ⟨vb, hvb⟩ := validB_ev b hbw
    have g1 : Ev (fun k => spec_l29One.f k [b]) vb := ⟨2000001, fun k hk => (hvb k (by omega)).1⟩
    have g2 : Ev (fun k => impl_ValidBlock.f k b.f0 b.f1 b.f2) vb := ⟨2000001, fun k hk => (hvb k (by omega)).2⟩
    cases vb with
    | false =>
      refine ⟨[], 1, by simp, ?_, ?_⟩
      · simp only [spec_PutBlock.f]; refine Ev_b e1 (Ev_t rfl (Ev_b g1 (Ev_suc ?_))); simp only [spec_PutBlock.j0]; exact Ev_t (by rfl) (Ev_n rfl)
      · simp only [impl_PutBlock.f]; refine Ev_b e2 (Ev_t rfl (Ev_b g2 (Ev_suc ?_))); simp only [impl_PutBlock.j0]; exact Ev_t (by rfl) (Ev_n rfl)
    | true =>
      have f1 := put_ev m hl b (hr _)
      have f2 : Ev (fun k => impl_Block_49.f k m b.f0 b.f1 b.f2) (((plc (fun x => cB (ckB x) (ckB b)) m : Nat) : Int), fnd (fun x => cB (ckB x) (ckB b)) m) := bs_ev m hl b.f0 b.f1 b.f2 (hr _)
      have cl : impl_Block_52.f m = some m := by unfold impl_Block_52.f; rw [if_pos (by omega)]
      have s1 : ∀ r c, (((putB m b).length : Int) > 32 → (r, c) = (([] : List Blk), (5 : Int))) → (¬ ((putB m b).length : Int) > 32 → (r, c) = (putB m b, (0 : Int))) → Ev (fun k => spec_PutBlock.f k m b.f0 b.f1 b.f2) (r, c) := by
        intro r c h1 h2
        simp only [spec_PutBlock.f]
        refine Ev_b e1 (Ev_t rfl (Ev_b g1 (Ev_suc ?_)))
        simp only [spec_PutBlock.j0]
        refine Ev_f (by decide) (Ev_b f1 ?_)
        by_cases h : ((putB m b).length : Int) > 32
        · exact Ev_t h (Ev_n (h1 h).symm)
        · exact Ev_f h (Ev_n (h2 h).symm)
      have hpl := plc_le (fun x => cB (ckB x) (ckB b)) m
      cases hf : fnd (fun x => cB (ckB x) (ckB b)) m with
      | true =>
        obtain ⟨hp, _⟩ := fnd_t hf
        have ep : putB m b = m.take (plc (fun x => cB (ckB x) (ckB b)) m) ++ b :: m.drop (plc (fun x => cB (ckB x) (ckB b)) m + 1) := by unfold putB; rw [if_pos hf]
        have el : (putB m b).length = m.length := by rw [ep]; simp; omega
        rw [hf] at f2
        refine ⟨putB m b, 0, by omega, s1 _ _ (fun h => by omega) (fun _ => rfl), ?_⟩
        simp only [impl_PutBlock.f]
        refine Ev_b e2 (Ev_t rfl (Ev_b g2 (Ev_suc ?_)))
        simp only [impl_PutBlock.j0]
        refine Ev_f (by decide) (Ev_b (Ev_c cl) (Ev_b f2 (Ev_t rfl (Ev_t (by show (0 : Int) ≤ _; omega) (Ev_t (by show _ < (m.length : Int); omega) (Ev_n ?_))))))
        rw [ep]
        simp only [Int.toNat_natCast, Prod.mk.injEq, and_true]
        rw [List.set_eq_take_append_cons_drop, if_pos hp]
      | false =>
        have ep : putB m b = m.take (plc (fun x => cB (ckB x) (ckB b)) m) ++ b :: m.drop (plc (fun x => cB (ckB x) (ckB b)) m) := by unfold putB; rw [if_neg (by rw [hf]; decide)]
        have el : (putB m b).length = m.length + 1 := by rw [ep]; simp; omega
        rw [hf] at f2
        by_cases hfull : (m.length : Int) = 32
        · refine ⟨[], 5, by simp, s1 _ _ (fun _ => rfl) (fun h => by omega), ?_⟩
          simp only [impl_PutBlock.f]
          refine Ev_b e2 (Ev_t rfl (Ev_b g2 (Ev_suc ?_)))
          simp only [impl_PutBlock.j0]
          exact Ev_f (by decide) (Ev_b (Ev_c cl) (Ev_b f2 (Ev_f (by simp) (Ev_t hfull (Ev_n rfl)))))
        · refine ⟨putB m b, 0, by omega, s1 _ _ (fun h => by omega) (fun _ => rfl), ?_⟩
          simp only [impl_PutBlock.f]
          refine Ev_b e2 (Ev_t rfl (Ev_b g2 (Ev_suc ?_)))
          simp only [impl_PutBlock.j0]
          refine Ev_f (by decide) (Ev_b (Ev_c cl) (Ev_b f2 (Ev_f (by simp) (Ev_f hfull ?_))))
          refine Ev_b (a := putB m b) (Ev_c ?_) (Ev_n rfl)
          unfold impl_Block_54.f
          simp only
          rw [if_pos ⟨by omega, by omega, by omega⟩, Int.toNat_natCast, ep, List.append_assoc]
          rfl
end Go.Proofs.Ytckboiphlhhckaa.Q
/- Own lemmas: the laws on lists of blocks, put together; written by wip/gen/claw.py. -/
namespace Go.Proofs.Ytckboiphlhhckaa.Q
open Go.RowKit Go.Proofs.YtckboiphlhhckaaW.PrintWords Go.Proofs.YtckboiphlhhckaaW.PrintLast Go.Proofs.YtckboiphlhhckaaW.PrintMore
set_option linter.unusedVariables false
theorem law_DropBlock : laws_FnExactDropBlock.Pure := by
  intro x u v hx hu hv
  have hM : maxLen = 9223372036854775807 := by decide
  refine Ev.rounds (r := true) ?_
  simp only [laws_FnExactDropBlock.f]
  by_cases lu : (u.size : Int) > 1048576
  · exact Ev_t lu (Ev_n rfl)
  refine Ev_f lu ?_
  by_cases lv : (v.size : Int) > 1048576
  · exact Ev_t lv (Ev_n rfl)
  refine Ev_f lv ?_
  refine Ev_b (szS_Block x hx.1 hx.2 (1048576) (by omega) (by omega)) ?_
  by_cases cx : ((ZS_Block x : Nat) : Int) ≤ 1048576
  case neg => rw [cut_neg cx]; exact Ev_t (by decide) (Ev_n rfl)
  rw [cut_pos cx]
  refine Ev_f (by omega) ?_
  have nx : (x.length : Int) ≤ 1048576 := by have := (ZS_in_Block x).1; omega
  have bx : ∀ y ∈ x, B_Block y := fun y hy => B_of_Block y (by have := (ZS_in_Block x).2 y hy; omega)
  have mx : ((x.map conv_Block).length : Int) ≤ 1048576 := by simpa using nx
  have Ex : ∀ y ∈ x.map conv_Block, E_Block y := fun y hy => by obtain ⟨u, hu, rfl⟩ := List.mem_map.1 hy; exact E_of_Block u (bx u hu)
  have tx := toS_Block x nx bx
  have qx := eqS_Block (x.map conv_Block) mx Ex
  have zx : ∀ y ∈ x.map conv_Block, ∃ u ∈ x, conv_Block u = y ∧ ((Z_Block u : Nat) : Int) ≤ 1048576 := fun y hy => by obtain ⟨u, hu, e⟩ := List.mem_map.1 hy; exact ⟨u, hu, e, by have := (ZS_in_Block x).2 u hu; omega⟩
  obtain ⟨r0, r1, E0, e1, e2⟩ := drop_ev (x.map conv_Block) mx (fun y hy => by obtain ⟨u_, _, rfl, h_⟩ := zx y hy; unfold Z_Block at h_; show ((u_.f2.size : Nat) : Int) ≤ 1048576; omega) u v
  have qr0 := eqS_Block r0 (by omega) (by first | exact E_r0 | (intro y _; trivial))
  obtain ⟨px, _, mmx, _⟩ := mk_Block (x.map conv_Block) (1) (by omega) (by omega) (by omega)
  obtain ⟨pr0, _, mr0, hr0⟩ := mk_Block r0 1 (by omega) (by omega) (by omega)
  repeat' (first | ((first | (with_reducible refine Ev_b e1 ?_) | (with_reducible refine Ev_b e2 ?_) | (with_reducible refine Ev_b tx ?_) | (with_reducible refine Ev_b qx ?_) | (with_reducible refine Ev_b qr0 ?_) | (with_reducible refine Ev_b mmx ?_) | (with_reducible refine Ev_b mr0 ?_) | (with_reducible refine Ev_b hr0 ?_)); try dsimp only) | (with_reducible refine Ev_t rfl ?_) | (with_reducible refine Ev_t True.intro ?_) | (refine Ev_f (by omega) ?_) | (refine Ev_t (by omega) ?_) | (refine Ev_f (by simp) ?_) | exact Ev_n rfl | (refine Ev_suc ?_; first | simp only [laws_FnExactDropBlock.j0] | simp only [laws_FnExactDropBlock.j1] | simp only [laws_FnExactDropBlock.j2]))
end Go.Proofs.Ytckboiphlhhckaa.Q
/- A block dropped from a list, by the program as by the reference. -/
namespace Go.Proofs.Ytckboiphlhhckaa.Pure
open Go.Proofs.Ytckboiphlhhckaa.Q
theorem FnExactDropBlock : laws_FnExactDropBlock.Pure := law_DropBlock
end Go.Proofs.Ytckboiphlhhckaa.Pure
namespace Go.Proofs.Ytckboiphlhhckaa.fnExactDropBlock
open Go.ChangeShapes Go.WideShapes Go.ChangeAt Go.RowKit Go.Proofs.Ytckboiphlhhckaa.OPN Go.Proofs.Ytckboiphlhhckaa.Q Go.Proofs.YtckboiphlhhckaaW.PrintWords
open Go.ChangeMaps (open_string shut_string)
set_option linter.unusedVariables false
theorem own : ownKnob Try.prog.godebug = none := by kernel_rfl
theorem laidOut : laidOutB Try.prog = true := by kernel_rfl
set_option maxRecDepth 100000 in
theorem lifted (os : Os) (started : os.Started) (H : Type) (enc : TypeId × Value → H) :
    ReturnsInHanded {} Try.checked os 8 .any (Rows.fnExactDropBlockSpec.pre6 enc Try.prog Try.f8 Rows.fnExactDropBlockRow.domain false) (Rows.fnExactDropBlockSpec.post enc Try.prog Try.f8 false true false false) := by
  refine returnsInHanded_of_change_sized (C := Try.checked) own started (by kernel_rfl) Try.func8
    (ChangeSpec.witness6 (enc := enc) (C := Try.checked) false ⟨#[], #[.slice none 0 0, .string ByteArray.empty, .string ByteArray.empty], []⟩ 8 (by kernel_rfl) (by kernel_rfl) (by kernel_rfl) (by kernel_rfl)) ?_
  intro W base args ds gs before hval0 hW hcnd hsz0 _
  have hval : ∀ (j : Nat) t v, Try.f8.params[j]? = some t → args[j]? = some v → Value.okWide Try.prog W .any base t v := hval0
  have hW' := hW
  obtain ⟨p, q, hA0, hV, rfl, hfz, hnd⟩ := hW
  have hA : DataW.TrodAll enc Try.prog W 0 (fun _ => true) true Try.f8.params.toList args.toList ds p := hA0
  rw [Try.params8] at hA hval
  obtain ⟨v0, vs0, d0, ds0, p0, q0, hargs, rfl, rfl, h0, r0⟩ := trodAll_cons hA
  obtain ⟨v1, vs1, d1, ds1, p1, q1, rfl, rfl, rfl, h1, r1⟩ := trodAll_cons r0
  obtain ⟨v2, vs2, d2, ds2, p2, q2, rfl, rfl, rfl, h2, r2⟩ := trodAll_cons r1
  obtain ⟨rfl, rfl, rfl⟩ := trodAll_nil r2
  obtain rfl : args = #[v0, v1, v2] := by cases args; simp_all
  obtain ⟨rfl, rfl⟩ := trodVars_none hV
  have lt0 : ∀ x ∈ p0, x.block < W.heap.size := by obtain ⟨m, hm⟩ := h0; exact DataW.trod_lt m _ _ _ hm
  have k0 := h0
  obtain ⟨z0, y0, u0, rfl⟩ := okWide_slice Try.underlying22 (hval 0 22 v0 rfl rfl)
  obtain ⟨fu0, hf0⟩ := h0
  obtain ⟨x0, ⟨A0, c0, hcs0, hc0, hr0⟩, w0⟩ := ((opn_slice Try.underlying22 (by kernel_rfl) opn29) : Opn _ _ (Kd.slice 29 k29) _).get rfl hf0
  obtain ⟨rfl, rfl, rfl⟩ : A0 = z0 ∧ x0.length = y0 ∧ c0 = u0 := (fun (h_ : z0 = A0 ∧ y0 = x0.length ∧ u0 = c0) => ⟨h_.1.symm, h_.2.1.symm, h_.2.2.symm⟩) (by simpa [Value.cells] using hcs0)
  obtain ⟨x1, rfl, rfl, rfl, w1⟩ := open_string Try.underlying9 (hval 1 9 v1 rfl rfl) h1
  obtain ⟨x2, rfl, rfl, rfl, w2⟩ := open_string Try.underlying9 (hval 2 9 v2 rfl rfl) h2
  clear hA0 hval0 hsz0
  obtain ⟨k, hP⟩ := Pure.FnExactDropBlock x0 x1 x2 w0 w1 w2
  refine (laws_FnExactDropBlock.calls k A0 c0 x0 x1 x2 true W hr0 hc0 hP).mono fun e W' hh => ?_
  obtain ⟨rfl, bel0⟩ := hh
  have bel : Below W.heap.size W W' := bel0
  exact ⟨_, rfl, _, _, _, [], _, [], hW', trodAll_mk1 (shut_bool Try.underlying4 _), (trodAll_cons_mk (Below.trod laidOut (by kernel_rfl) (of_decide_eq_true (by kernel_rfl)) k0 bel lt0) (trodAll_cons_mk (shut_string Try.underlying9 w1) (trodAll_cons_mk (shut_string Try.underlying9 w2) trodAll_mk0))), rfl, bel.frame _, fun h => by cases h⟩
theorem over : Rows.fnExactDropBlockRow.holds Try.pinned (OpenSpec.ofChange Rows.fnExactDropBlockSpec) :=
  OpenClaim.holds_of_wide 8 Try.f8 rfl rfl rfl rfl rfl rfl rfl ⟨rfl, rfl, rfl, rfl, rfl⟩ rfl rfl rfl rfl rfl (by kernel_rfl) Try.func8 (by kernel_rfl)
    (of_decide_eq_true (by kernel_rfl)) (by unfold Func.isWrapper; first | (rw [if_pos (by decide +kernel)]; kernel_rfl) | (rw [if_neg (by decide +kernel)]; exact ⟨rfl, rfl⟩))
    (fun os started H enc _ => lifted os started H enc)
theorem proved : Rows.FnExactDropBlockSaid := over
#print axioms proved
end Go.Proofs.Ytckboiphlhhckaa.fnExactDropBlock
namespace Go.Proofs.Ytckboiphlhhckaa
/-- The row, under a short name, for the claim. -/
theorem fnExactDropBlock_holds : Rows.FnExactDropBlockSaid := fnExactDropBlock.proved
end Go.Proofs.Ytckboiphlhhckaa
