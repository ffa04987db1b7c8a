/- A block put into a list, by the program as by the reference. This text holds the last walks, the plain law and the row. -/
import Derived.Test.YtckboiphlhhckaaRows
import Derived.WalkKit
import Derived.ProofKit
import Derived.OpenShut
import Derived.ShutString
import Derived.ChangeOld
import Derived.Below
import Derived.SizedLaws
import Derived.Carry
import Derived.Test.YtckboiphlhhckaaKFnExactPutBlocka
import Derived.Test.YtckboiphlhhckaaKFnExactPutBlockc
import Derived.Test.YtckboiphlhhckaaKFnExactPutBlockb
import Derived.Test.YtckboiphlhhckaaKFnExactPutBlockd
set_option linter.unusedVariables false
set_option linter.unusedSimpArgs false
namespace Go.Proofs.Ytckboiphlhhckaa.Q
open Go.RowKit Go.Proofs.YtckboiphlhhckaaW.PrintWords Go.Proofs.YtckboiphlhhckaaW.PrintLast Go.Proofs.YtckboiphlhhckaaW.PrintMore
attribute [local go_sem] max2_int min2_int max_two min_two max_three min_three max_four min_four   -- for this text's walks alone
set_option linter.unusedVariables false
set_option linter.unusedSimpArgs false

/-! ### impl_Block_51: function 51 -/
-- IMPORT Derived.Test.YtckboiphlhhckaaQSlx
def impl_Block_51.f (l0 : List S32) (a1 : Int) (a2 : Int) : Option (List S32) := if 0 ≤ a1 ∧ a1 < (l0.length : Int) ∧ a2 = a1 + 1 then some (l0.eraseIdx a1.toNat) else none
set_option maxHeartbeats 1000000 in
set_option maxRecDepth 100000 in
theorem impl_Block_51.calls (P0_ : Nat → Prop) (u9000_ : Value) (l0 : List S32) (a1 : Int) (a2 : Int) (r : List S32) (w0 w : World) (hB : Below w0.heap.size w0 w) (ho0 : Kd.R k32 32 w w0.heap.size P0_ u9000_ l0) (h : impl_Block_51.f l0 a1 a2 = some r) :
    Calls Try.prog 51 #[u9000_, .int .i64 a1, .int .i64 a2] w fun e w' => ∃ v0_ : Value, e = .returned (v0_) ∧ Kd.R k32 32 w' w0.heap.size (fun k_ => (P0_ k_ ∨ w.heap.size ≤ k_)) v0_ r ∧ Below w0.heap.size w0 w' ∧ Kept w w' (fun k_ => P0_ k_) := by
  unfold impl_Block_51.f at h
  split at h
  case isFalse => cases h
  rename_i hc
  obtain ⟨h0, h1, rfl⟩ := hc
  obtain rfl := Option.some.inj h
  obtain ⟨i, rfl⟩ := Int.eq_ofNat_of_zero_le h0
  rcases SLX.R_open ho0 with ⟨_, rfl⟩ | ⟨g, c, cur, okk, rfl, hok, hbg, hh, hnc, hcm, hcs, hrep⟩
  · simp at h1; omega
  have hsz : maxLen = 9223372036854775807 := by decide
  have hi : i < l0.length := by omega
  obtain ⟨n, hn⟩ : ∃ n, n = l0.length := ⟨_, rfl⟩
  obtain ⟨i0, hi0, hz0, hzs, _⟩ := info_parts info32
  have hA1 : (if c = i + 1 then some (⟨g, 0, none⟩ : Addr) else some ⟨g, (i + 1) * 3, none⟩) = (if c = i + 1 then some (⟨g, 0, none⟩ : Addr) else (some (⟨g, 0, none⟩ : Addr)).map (·.add ((i + 1) * 3))) := by
    split
    · rfl
    · rw [Option.map_some, add_plain]
  have hgl : g < w.heap.size := (Array.getElem?_eq_some_iff.1 hh).1
  have HO : Kd.R k32 32 w.drew w0.heap.size P0_ (.slice (some ⟨g, 0, none⟩) n c) l0 := by rw [hn]; exact Kd.R_drew ho0
  obtain ⟨w1, hr1, HO1, hg1⟩ := Kd.R_delete_run (P := Try.prog) k32 w0.heap.size 25 25 32 i0 Try.underlying25 hi0 hzs HO (k := i) (by omega) rfl (c - (i + 1))
  replace hr1 : (Builtin.append_ #[25, 25] 25 #[.slice (some ⟨g, 0, none⟩) i c, .slice (if c = i + 1 then some (⟨g, 0, none⟩ : Addr) else (some (⟨g, 0, none⟩ : Addr)).map (·.add ((i + 1) * 3))) (n - (i + 1)) (c - (i + 1))]).run Try.prog w.drew = .ok (.slice (some ⟨g, 0, none⟩) (n - 1) c) w1 := hr1
  have hr1' : (Builtin.append_ #[25, 25] 25 #[.slice (some ⟨g, 0, none⟩) i c, .slice (if c = i + 1 then some (⟨g, 0, none⟩ : Addr) else some ⟨g, (i + 1) * 3, none⟩) (n - (i + 1)) (c - (i + 1))]).run Try.prog w.drew = .ok (.slice (some ⟨g, 0, none⟩) (n - 1) c) w1 := by rw [hA1]; exact hr1
  have hl1 : (l0.eraseIdx i).length = n - 1 := by rw [List.length_eraseIdx_of_lt hi, hn]
  rcases SLX.R_open HO1 with ⟨hx, _⟩ | ⟨g', c', cur1, okk1, hx, _, _, hh1, hnc1, _, hcs1, hrep1⟩
  · cases hx
  injection hx with hx1 hx2 hx3
  injection hx1 with hx1
  injection hx1 with hx1
  subst hx1; subst hx3
  have hq : (n - 1) * 3 + 3 ≤ cur1.size := by
    rw [hcs1]
    have : (n - 1 + 1) * 3 ≤ c * 3 := Nat.mul_le_mul_right _ (by omega)
    rw [Nat.add_mul, Nat.one_mul] at this
    exact this
  have hr2 := SLX.run_clear_k (P := Try.prog) w1 25 32 0 (.agg #[(.string ⟨#[]⟩), (.string ⟨#[]⟩), (.string ⟨#[]⟩)]) Try.underlying25 Try.zeroValue32 (fun v hv => (List.all_eq_true.mp (show (Value.cells (.agg #[(.string ⟨#[]⟩), (.string ⟨#[]⟩), (.string ⟨#[]⟩)])).toList.all Value.oneCell' = true by kernel_rfl)) v hv) g ((n - 1) * 3) (c - (n - 1)) cur1 hh1 hq
  obtain ⟨w2, hw2⟩ : ∃ w2, w2 = w1.setRow g (cur1.toList.take ((n - 1) * 3) ++ (Value.cells (.agg #[(.string ⟨#[]⟩), (.string ⟨#[]⟩), (.string ⟨#[]⟩)])).toList ++ cur1.toList.drop ((n - 1) * 3 + (Value.cells (.agg #[(.string ⟨#[]⟩), (.string ⟨#[]⟩), (.string ⟨#[]⟩)])).size)).toArray := ⟨_, rfl⟩
  rw [← hw2] at hr2
  rw [← hn]
  have hF : SLX.Flat k32 := ⟨fun _ _ _ _ _ _ _ _ h => h, fun _ _ _ _ _ h => h⟩
  have HR := SLX.R_spare hF HO1 hh1 (Value.cells (.agg #[(.string ⟨#[]⟩), (.string ⟨#[]⟩), (.string ⟨#[]⟩)])).toList ((n - 1) * 3) (Nat.le_refl _) (by rw [Array.length_toList]; exact hq)
  rw [Array.length_toList, ← hw2] at HR
  have HG : w.grownBy w2 (some g) := World.grownBy.trans (World.grownBy.trans (grown_of_below (below_drew (Below.refl _ _)) _) hg1) (hw2 ▸ SLX.setRow_grown w1 g _)
  have HB := Aside0.mk (hB.grown HG hB.size (fun k hk => by injection hk with hk; subst hk; exact hbg))
  have HK := Aside0.mk (SLX.kept_of_grown (S := fun k_ => P0_ k_) HG hok)
  have HR2 := Aside0.mk (Kd.R_mono (ok' := fun k_ => (P0_ k_ ∨ w.heap.size ≤ k_)) HR (fun k hk => .inl hk))
  simp [Value.cells] at hw2
  rw [hw2] at HB HK HR2
  clear HR HG
  have b1 : i ≤ c := by omega
  have b2 : i < n := by omega
  have b3 : n ≤ c := by omega
  have b4 : n - 1 ≤ n := by omega
  have b5 : ¬ c = n - 1 := by omega
  have b6 : n - (n - 1) = 1 := by omega
  have b7 : (0 : Int) ≤ (i : Int) + 1 := by omega
  have b8 : (i : Int) + 1 ≤ (n : Int) := by omega
  have HN := Aside0.mk hn
  clear hn hi hnc
  clear HO1 hB h1 h hx2 hrep1 hcs1 hnc1 hrep hcs HO ho0
  go_enter Try.func51, Try.ntmps51
  go_wp2
  go_region_law (first | refine SLX.step_append_runS rfl (.tmp 22) (.tmp 25) 25 rfl (.slice (some ⟨g, 0, none⟩) i c) (.slice (if c = i + 1 then some (⟨g, 0, none⟩ : Addr) else (some (⟨g, 0, none⟩ : Addr)).map (·.add ((i + 1) * 3))) (n - (i + 1)) (c - (i + 1))) (by simp [Act.eval, Act.put]) (by simp [Act.eval, Act.put]) hr1 ?_ | refine SLX.step_append_runS rfl (.tmp 22) (.tmp 25) 25 rfl _ _ rfl rfl hr1 ?_ | refine SLX.step_append_runS rfl (.tmp 22) (.tmp 25) 25 rfl _ _ rfl rfl hr1' ?_)
  go_wp2
  all_goals
    go_ret
    try subst_vars
    exact ⟨_, rfl, HR2.out, HB.out, HK.out⟩

end Go.Proofs.Ytckboiphlhhckaa.Q
namespace Go.Proofs.Ytckboiphlhhckaa.Q
open Go.RowKit Go.Proofs.YtckboiphlhhckaaW.PrintWords Go.Proofs.YtckboiphlhhckaaW.PrintLast Go.Proofs.YtckboiphlhhckaaW.PrintMore
attribute [local go_sem] max2_int min2_int max_two min_two max_three min_three max_four min_four   -- for this text's walks alone
set_option linter.unusedVariables false
set_option linter.unusedSimpArgs false

/-! ### impl_DropBlock: function 32 -/
def impl_DropBlock.f (k : Nat) (l0 : List (S32)) (a1 : ByteArray) (a2 : ByteArray) : Option ((List (S32)) × Int) := (impl_ValidBlocks.f k l0).bind fun t101 => (if t101 = true then ((impl_Block_49.f k l0 a1 a2 (⟨#[]⟩ : ByteArray)).bind fun bt102 => (if bt102.2 = true then ((impl_Block_52.f l0).bind fun t104 => ((impl_Block_51.f t104 bt102.1 (wrap64 (bt102.1 + 1))).bind fun t107 => (some (t107, 0)))) else (some (([] : List (S32)), 3)))) else (some (([] : List (S32)), 1)))
theorem impl_DropBlock.mono : ∀ a0 a1 a2 k, LeO (impl_DropBlock.f k a0 a1 a2) (impl_DropBlock.f (k + 1) a0 a1 a2) := by
  intro a0 a1 a2 k
  unfold impl_DropBlock.f
  repeat' first
      | (with_reducible exact impl_Block_49.mono _ _ _ _ _)
      | (with_reducible exact impl_ValidBlocks.mono _ _)
      | (with_reducible exact LeO.refl _)
      | (with_reducible exact LeO.none _)
      | (with_reducible refine LeO.ite ?_ ?_)
      | (with_reducible refine LeO.bind ?_ (fun _ => ?_))
      | exact impl_Block_49.mono _ _ _ _ _
      | exact impl_ValidBlocks.mono _ _
      | exact LeO.none _
      | refine LeO.ite ?_ ?_
      | refine LeO.bind ?_ (fun _ => ?_)
set_option maxHeartbeats 8000000 in
set_option maxRecDepth 100000 in
theorem impl_DropBlock.calls (k : Nat) (A0 : Option Addr) (c0 : Nat) (l0 : List (S32)) (a1 : ByteArray) (a2 : ByteArray) (r1 : List (S32)) (r2 : Int) (w : World) (hr0 : Kd.C k32 w A0 l0.length l0) (hc0 : l0.length ≤ c0) (h : impl_DropBlock.f k l0 a1 a2 = some (r1, r2)) :
    Calls Try.prog 32 #[.slice A0 l0.length c0, .string a1, .string a2] w fun e w' => ∃ v0_ : Value, e = .returned (.tuple #[v0_, .int .i64 r2]) ∧ Kd.R k32 32 w' w.heap.size (fun _ => True) v0_ r1 ∧ Below w.heap.size w w' := by
  have hu32 := Try.underlying32
  have HR0 := Aside0.mk hr0
  have HC0 := Aside0.mk hc0
  clear hr0 hc0
  have HB := Aside0.mk (Below.refl w.heap.size w)
  have H : ((impl_ValidBlocks.f k l0).bind fun t101 => (if t101 = true then ((impl_Block_49.f k l0 a1 a2 (⟨#[]⟩ : ByteArray)).bind fun bt102 => (if bt102.2 = true then ((impl_Block_52.f l0).bind fun t104 => ((impl_Block_51.f t104 bt102.1 (wrap64 (bt102.1 + 1))).bind fun t107 => (some (t107, 0)))) else (some (([] : List (S32)), 3)))) else (some (([] : List (S32)), 1)))) = some (r1, r2) := h
  clear h
  replace H := Option.bind_eq_some_iff.mp H
  obtain ⟨t101, A40, H⟩ := H
  replace H : (if t101 = true then ((impl_Block_49.f k l0 a1 a2 (⟨#[]⟩ : ByteArray)).bind fun bt102 => (if bt102.2 = true then ((impl_Block_52.f l0).bind fun t104 => ((impl_Block_51.f t104 bt102.1 (wrap64 (bt102.1 + 1))).bind fun t107 => (some (t107, 0)))) else (some (([] : List (S32)), 3)))) else (some (([] : List (S32)), 1))) = some (r1, r2) := H
  have A4 := Aside0.mk A40
  clear A40
  have HC5 := Aside0.mk H
  clear H
  go_enter Try.func32, Try.ntmps32
  go_upto_if 12 with (first | ((with_reducible refine gate_callee (f := 22) rfl ?_); refine goesL_ (some 11) rfl rfl Try.func22 (by kernel_rfl) rfl #[.slice A0 l0.length c0] rfl (by (try simp only [List.map_toArray, List.map_cons, List.map_nil]); first | done | rfl | (simp only [List.length_drop, List.length_take]; rfl)) ?_; (with_reducible refine (impl_ValidBlocks.calls k _ _ l0 t101 _ ?side1 ?side2 A4.out).mono ?_); (case side1 => repeat (first | exact HR0.out | (with_reducible refine Kd.C_alloc ?_ _) | (with_reducible refine Kd.C_drewN ?_ _) | (with_reducible refine Kd.C_drew ?_))); (case side2 => exact HC0.out); rintro e w6 ⟨rfl, hb⟩; refine ⟨_, rfl, ?_⟩; have n0_ := Aside0.mk (below_step (by repeat (first | (with_reducible first | exact HB.out | apply below_alloc | apply pw_below_drewN | apply below_drew1) | exact HB.out)) hb); clear HB; have HB := n0_; clear n0_; (try clear hb); (try clear hb2); (try clear hk); (try clear hi)))
  (try simp only [Act.put, List.setIfInBounds_toArray, List.set_cons_zero, List.set_cons_succ])
  have H := HC5.out
  clear HC5
  by_cases c7 : t101 = true
  · subst c7
    have H1 : ((impl_Block_49.f k l0 a1 a2 (⟨#[]⟩ : ByteArray)).bind fun bt102 => (if bt102.2 = true then ((impl_Block_52.f l0).bind fun t104 => ((impl_Block_51.f t104 bt102.1 (wrap64 (bt102.1 + 1))).bind fun t107 => (some (t107, 0)))) else (some (([] : List (S32)), 3)))) = some (r1, r2) := by rw [if_pos rfl] at H; exact H
    clear H
    have H := H1
    clear H1
    replace H := Option.bind_eq_some_iff.mp H
    obtain ⟨⟨t102, t103⟩, A80, H⟩ := H
    replace H : (if t103 = true then ((impl_Block_52.f l0).bind fun t104 => ((impl_Block_51.f t104 t102 (wrap64 (t102 + 1))).bind fun t107 => (some (t107, 0)))) else (some (([] : List (S32)), 3))) = some (r1, r2) := H
    have A8 := Aside0.mk A80
    clear A80
    have HC9 := Aside0.mk H
    clear H
    go_upto_if 22 with (first | ((with_reducible refine gate_callee (f := 49) rfl ?_); refine goesL_ (some 18) rfl rfl Try.func49 (by kernel_rfl) rfl #[.slice A0 l0.length c0, .agg #[.string a1, .string a2, .string (⟨#[]⟩ : ByteArray)], .func (.func 47) #[] #[]] rfl (by (try simp only [List.map_toArray, List.map_cons, List.map_nil]); first | done | rfl | (simp only [List.length_drop, List.length_take]; rfl)) ?_; (with_reducible refine (impl_Block_49.calls k _ _ l0 a1 a2 (⟨#[]⟩ : ByteArray)  t102 t103 _ ?side1 ?side2 A8.out).mono ?_); (case side1 => repeat (first | exact (Kd.C_below HR0.out (by repeat (first | (with_reducible first | exact HB.out | apply below_alloc | apply pw_below_drewN | apply below_drew1) | exact HB.out))) | (with_reducible refine Kd.C_alloc ?_ _) | (with_reducible refine Kd.C_drewN ?_ _) | (with_reducible refine Kd.C_drew ?_))); (case side2 => exact HC0.out); rintro e w10 ⟨rfl, hb⟩; refine ⟨_, rfl, ?_⟩; have n0_ := Aside0.mk (below_step (by repeat (first | (with_reducible first | exact HB.out | apply below_alloc | apply pw_below_drewN | apply below_drew1) | exact HB.out)) hb); clear HB; have HB := n0_; clear n0_; (try clear hb); (try clear hb2); (try clear hk); (try clear hi)))
    (try simp only [Act.put, List.setIfInBounds_toArray, List.set_cons_zero, List.set_cons_succ])
    have H := HC9.out
    clear HC9
    by_cases c11 : t103 = true
    · subst c11
      have H1 : ((impl_Block_52.f l0).bind fun t104 => ((impl_Block_51.f t104 t102 (wrap64 (t102 + 1))).bind fun t107 => (some (t107, 0)))) = some (r1, r2) := by rw [if_pos rfl] at H; exact H
      clear H
      have H := H1
      clear H1
      replace H := Option.bind_eq_some_iff.mp H
      obtain ⟨t104, A120, H⟩ := H
      replace H : ((impl_Block_51.f t104 t102 (wrap64 (t102 + 1))).bind fun t107 => (some (t107, 0))) = some (r1, r2) := H
      have A12 := Aside0.mk A120
      clear A120
      replace H := Option.bind_eq_some_iff.mp H
      obtain ⟨t107, A130, H⟩ := H
      replace H : (some (t107, 0)) = some (r1, r2) := H
      have A13 := Aside0.mk A130
      clear A130
      simp only [Option.some.injEq, Prod.mk.injEq] at H
      obtain ⟨rfl, rfl⟩ := H
      go_wp2_with (first | ((with_reducible refine gate_callee (f := 52) rfl ?_); refine goesL_ (some 24) rfl rfl Try.func52 (by kernel_rfl) rfl #[.slice A0 l0.length c0] rfl (by (try simp only [List.map_toArray, List.map_cons, List.map_nil]); first | done | rfl | (simp only [List.length_drop, List.length_take]; rfl)) ?_; (with_reducible refine (impl_Block_52.calls _ _ l0 t104 _ ?side1 ?side2 A12.out).mono ?_); (case side1 => repeat (first | exact (Kd.C_below HR0.out (by repeat (first | (with_reducible first | exact HB.out | apply below_alloc | apply pw_below_drewN | apply below_drew1) | exact HB.out))) | (with_reducible refine Kd.C_alloc ?_ _) | (with_reducible refine Kd.C_drewN ?_ _) | (with_reducible refine Kd.C_drew ?_))); (case side2 => exact HC0.out); rintro e w14 ⟨v105, rfl, ho0, hb⟩; refine ⟨_, rfl, ?_⟩; have n0_ := Aside0.mk (Kd.R_lower ho0 (below_size (by repeat (first | (with_reducible first | exact HB.out | apply below_alloc | apply pw_below_drewN | apply below_drew1) | exact HB.out)))); have n1_ := Aside0.mk (below_step (by repeat (first | (with_reducible first | exact HB.out | apply below_alloc | apply pw_below_drewN | apply below_drew1) | exact HB.out)) hb); clear HB; have HO106 := n0_; have HB := n1_; clear n0_ n1_; (try clear hb); (try clear hb2); (try clear hk); (try clear hi); (try clear ho0); obtain ⟨Ao15, co15, eo15⟩ := Kd.R_slice HO106.out; subst eo15) | ((with_reducible refine gate_callee (f := 51) rfl ?_); refine goesL_ (some 28) rfl rfl Try.func51 (by kernel_rfl) rfl #[.slice Ao15 t104.length co15, .int .i64 t102, .int .i64 (wrap64 (t102 + 1))] rfl (by (try simp only [List.map_toArray, List.map_cons, List.map_nil]); first | done | rfl | (simp only [List.length_drop, List.length_take]; rfl)) ?_; (with_reducible refine (impl_Block_51.calls (fun k_ => some k_ = (.slice Ao15 t104.length co15 : Value).ownBlock) (.slice Ao15 t104.length co15) t104 t102 (wrap64 (t102 + 1)) t107 w _ ?side1 ?side2 A13.out).mono ?_); (case side1 => repeat (first | (with_reducible first | exact HB.out | apply below_alloc | apply pw_below_drewN | apply below_drew1) | exact HB.out)); (case side2 => exact Kd.R_tight rfl HO106.out); rintro e w16 ⟨v108, rfl, ho0, hb, hkp⟩; refine ⟨_, rfl, ?_⟩; have n0_ := Aside0.mk (Kd.R_mono (ok' := fun k_ => True) ho0 (fun k_ hk_ => trivial)); have n1_ := Aside0.mk (hb); clear HB; clear HO106; have HO109 := n0_; have HB := n1_; clear n0_ n1_; (try clear hb); (try clear hkp); (try clear ho0)))
      go_ret2
      exact ⟨_, by first | rfl | (simp [errW_none, errW_some] <;> rfl) | (simp [*, errW_none, errW_some] <;> rfl), by (with_reducible repeat (first | apply Kd.R_alloc | apply Kd.R_drewN | apply Kd.R_drew)); exact HO109.out, by repeat (first | (with_reducible first | exact HB.out | apply below_alloc | apply pw_below_drewN | apply below_drew1) | exact HB.out)⟩
    · replace c11 := Bool.eq_false_iff.mpr c11
      subst c11
      have H1 : (some (([] : List (S32)), 3)) = some (r1, r2) := by rw [if_neg (show ¬ (false = true) by decide)] at H; exact H
      clear H
      have H := H1
      clear H1
      simp only [Option.some.injEq, Prod.mk.injEq] at H
      obtain ⟨rfl, rfl⟩ := H
      go_wp2
      go_ret2
      exact ⟨_, by first | rfl | (simp [errW_none, errW_some] <;> rfl) | (simp [*, errW_none, errW_some] <;> rfl), by first | exact Kd.R_nil _ _ _ _ _ | exact Kd.N_nil _ _ _ _ _ | exact Kd.V_nil _ _ _ _ _ | exact Kd.Q_nil _ _ _ _ _ | exact Kd.S_nil _ _ _ _ _, by repeat (first | (with_reducible first | exact HB.out | apply below_alloc | apply pw_below_drewN | apply below_drew1) | exact HB.out)⟩
  · replace c7 := Bool.eq_false_iff.mpr c7
    subst c7
    have H1 : (some (([] : List (S32)), 1)) = some (r1, r2) := by rw [if_neg (show ¬ (false = true) by decide)] at H; exact H
    clear H
    have H := H1
    clear H1
    simp only [Option.some.injEq, Prod.mk.injEq] at H
    obtain ⟨rfl, rfl⟩ := H
    go_wp2
    go_ret2
    exact ⟨_, by first | rfl | (simp [errW_none, errW_some] <;> rfl) | (simp [*, errW_none, errW_some] <;> rfl), by first | exact Kd.R_nil _ _ _ _ _ | exact Kd.N_nil _ _ _ _ _ | exact Kd.V_nil _ _ _ _ _ | exact Kd.Q_nil _ _ _ _ _ | exact Kd.S_nil _ _ _ _ _, by repeat (first | (with_reducible first | exact HB.out | apply below_alloc | apply pw_below_drewN | apply below_drew1) | exact HB.out)⟩

end Go.Proofs.Ytckboiphlhhckaa.Q
/- Own lemmas: the laws of a block named, of the blocks of a kind, of a block dropped, of a block put in. -/
namespace Go.Proofs.Ytckboiphlhhckaa.Q
open Go.RowKit Go.Proofs.YtckboiphlhhckaaW.PrintWords Go.Proofs.YtckboiphlhhckaaW.PrintLast Go.Proofs.YtckboiphlhhckaaW.PrintMore
theorem ok_loop (m : List Blk) (hl : (m.length : Int) ≤ 1048576) : ∀ (d i k : Nat), i + d = m.length → spec_l29Ok.l0 k m i = some true → m.length ≤ 32 ∧ ∀ (j : Nat), i ≤ j → 0 < j → ∀ (hj : j < m.length), cB (ckB (m[j - 1]'(by omega))) (ckB m[j]) < 0 := by
  intro d
  induction d with
  | zero =>
    intro i k h1 h
    cases k with
    | zero => simp [spec_l29Ok.l0] at h
    | succ k =>
      simp only [spec_l29Ok.l0] at h
      rw [if_neg (by omega)] at h
      have h := Option.some.inj h
      exact ⟨by have := of_decide_eq_true h; omega, fun j h2 _ hj => by omega⟩
  | succ d ih =>
    intro i k h1 h
    cases k with
    | zero => simp [spec_l29Ok.l0] at h
    | succ k =>
      simp only [spec_l29Ok.l0] at h
      rw [if_pos (by omega), if_pos (by omega)] at h
      obtain ⟨t, _, h⟩ := Option.bind_eq_some_iff.1 h
      cases t with
      | false => simp at h
      | true =>
        rw [if_pos rfl] at h
        by_cases hi : i = 0
        · subst hi
          rw [if_neg (by omega), wr64s 0 (by omega)] at h
          obtain ⟨a1, a2⟩ := ih 1 k (by omega) h
          exact ⟨a1, fun j h2 h3 hj => a2 j (by omega) h3 hj⟩
        · have e : wrap64 ((i : Int) - 1) = ((i - 1 : Nat) : Int) := by rw [wr64 (by omega) (by omega)]; omega
          rw [if_pos (by omega), e, if_pos (by omega), if_pos (by omega), rdi_Block m (i - 1) (by omega), rdi_Block m i (by omega), bfr_ev] at h
          simp only [Option.bind_some] at h
          by_cases hc : cB (ckB (m[i - 1]'(by omega))) (ckB (m[i]'(by omega))) < 0
          · rw [if_pos (by simpa using hc), wr64s i (by omega)] at h
            obtain ⟨a1, a2⟩ := ih (i + 1) k (by omega) h
            refine ⟨a1, fun j h2 h3 hj => ?_⟩
            rcases Nat.lt_or_eq_of_le h2 with g | g
            · exact a2 j (by omega) h3 hj
            · subst g; exact hc
          · rw [if_neg (by simpa using hc)] at h
            simp at h
theorem ok_ev (m : List Blk) (hl : (m.length : Int) ≤ 1048576) (hw : ∀ y ∈ m, (y.f2.size : Int) ≤ 1048576) : ∃ b, Ev (fun k => spec_l29Ok.f k m) b ∧ Ev (fun k => impl_ValidBlocks.f k m) b ∧ (b = true → m.length ≤ 32 ∧ ∀ t, Rsg (fun x => cB (ckB x) t) m) := by
  obtain ⟨b, hb⟩ := validBS_ev m hl hw
  refine ⟨b, ⟨4000001, fun k hk => (hb k (by omega)).1⟩, ⟨4000001, fun k hk => (hb k (by omega)).2⟩, fun h => ?_⟩
  subst h
  have h1 := (hb 4000001 (by omega)).1
  simp only [spec_l29Ok.f] at h1
  obtain ⟨a1, a2⟩ := ok_loop m hl m.length 0 4000001 (by omega) h1
  refine ⟨a1, fun t => rsg_of cB_ord ckB (fun i hi => ?_) t⟩
  exact a2 (i + 1) (by omega) (by omega) hi
theorem dropL (l : List Blk) (i : Nat) : l.eraseIdx i = l.take i ++ l.drop (i + 1) := List.eraseIdx_eq_take_drop_succ l i
/-- One block by its name. -/
theorem named_ev (m : List Blk) (hl : (m.length : Int) ≤ 1048576) (hw : ∀ y ∈ m, (y.f2.size : Int) ≤ 1048576) (u v : ByteArray) : ∃ r, Ev (fun k => spec_BlockNamed.f k m u v) r ∧ Ev (fun k => impl_BlockNamed.f k m u v) r := by
  obtain ⟨b, e1, e2, hb⟩ := ok_ev m hl hw
  cases b with
  | false =>
    refine ⟨((⟨#[]⟩ : ByteArray), 1), ?_, ?_⟩
    · simp only [spec_BlockNamed.f]; exact Ev_b e1 (Ev_f (by decide) (Ev_n rfl))
    · simp only [impl_BlockNamed.f]; exact Ev_b e2 (Ev_f (by decide) (Ev_n rfl))
  | true =>
    obtain ⟨_, hr⟩ := hb rfl
    have f1 := find_ev m hl u v (hr _)
    have f2 := bs_ev m hl u v (⟨#[]⟩ : ByteArray) (hr _)
    cases hf : fnd (fun x => cB (ckB x) (u.data.toList, v.data.toList)) m with
    | false =>
      rw [hf, if_neg (by decide)] at f1
      rw [hf] at f2
      refine ⟨((⟨#[]⟩ : ByteArray), 3), ?_, ?_⟩
      · simp only [spec_BlockNamed.f]; exact Ev_b e1 (Ev_t rfl (Ev_b f1 (Ev_t (by decide) (Ev_n rfl))))
      · simp only [impl_BlockNamed.f]; exact Ev_b e2 (Ev_t rfl (Ev_b f2 (Ev_f (by simp) (Ev_n rfl))))
    | true =>
      obtain ⟨hp, _⟩ := fnd_t hf
      rw [hf, if_pos rfl] at f1
      rw [hf] at f2
      refine ⟨((m[plc (fun x => cB (ckB x) (u.data.toList, v.data.toList)) m]'hp).f2, 0), ?_, ?_⟩
      · simp only [spec_BlockNamed.f]
        exact Ev_b e1 (Ev_t rfl (Ev_b f1 (Ev_f (by omega) (Ev_t (by omega) (Ev_t (by omega) (Ev_n (by rw [rdi_Block m _ hp])))))))
      · simp only [impl_BlockNamed.f]
        exact Ev_b e2 (Ev_t rfl (Ev_b f2 (Ev_t rfl (Ev_t (by show (0 : Int) ≤ _; omega) (Ev_t (by show _ < (m.length : Int); omega) (Ev_n (by simp only; rw [rdi_Block m _ hp])))))))
/-- A block dropped. -/
theorem drop_ev (m : List Blk) (hl : (m.length : Int) ≤ 1048576) (hw : ∀ y ∈ m, (y.f2.size : Int) ≤ 1048576) (u v : ByteArray) : ∃ r c, r.length ≤ 1048576 ∧ Ev (fun k => spec_DropBlock.f k m u v) (r, c) ∧ Ev (fun k => impl_DropBlock.f k m u v) (r, c) := by
  obtain ⟨b, e1, e2, hb⟩ := ok_ev m hl hw
  cases b with
  | false =>
    refine ⟨[], 1, by simp, ?_, ?_⟩
    · simp only [spec_DropBlock.f]; exact Ev_b e1 (Ev_f (by decide) (Ev_n rfl))
    · simp only [impl_DropBlock.f]; exact Ev_b e2 (Ev_f (by decide) (Ev_n rfl))
  | true =>
    obtain ⟨hn, hr⟩ := hb rfl
    have f1 := find_ev m hl u v (hr _)
    have f2 := bs_ev m hl u v (⟨#[]⟩ : ByteArray) (hr _)
    cases hf : fnd (fun x => cB (ckB x) (u.data.toList, v.data.toList)) m with
    | false =>
      rw [hf, if_neg (by decide)] at f1
      rw [hf] at f2
      refine ⟨[], 3, by simp, ?_, ?_⟩
      · simp only [spec_DropBlock.f]; exact Ev_b e1 (Ev_t rfl (Ev_b f1 (Ev_t (by decide) (Ev_n rfl))))
      · simp only [impl_DropBlock.f]; exact Ev_b e2 (Ev_t rfl (Ev_b f2 (Ev_f (by simp) (Ev_n rfl))))
    | true =>
      obtain ⟨hp, _⟩ := fnd_t hf
      rw [hf, if_pos rfl] at f1
      rw [hf] at f2
      generalize plc (fun x => cB (ckB x) (u.data.toList, v.data.toList)) m = p at hp f1 f2
      refine ⟨m.take p ++ m.drop (p + 1), 0, by simp; omega, ?_, ?_⟩
      · simp only [spec_DropBlock.f]
        refine Ev_b e1 (Ev_t rfl (Ev_b f1 (Ev_f (by omega) (Ev_s (Ev_t (by omega) (Ev_t (by omega) (Ev_s (Ev_t (by simp; omega) (Ev_s ?_)))))))))
        rw [wr64s p (by omega)]
        refine Ev_t (by omega) (Ev_t (by omega) (Ev_s (Ev_t (by simp; omega) (Ev_n ?_))))
        rw [List.nil_append]
        rfl
      · simp only [impl_DropBlock.f]
        refine Ev_b e2 (Ev_t rfl (Ev_b f2 (Ev_t rfl ?_)))
        refine Ev_b (a := m) (Ev_c (by unfold impl_Block_52.f; rw [if_pos (by omega)])) ?_
        rw [wr64s p (by omega)]
        refine Ev_b (a := m.take p ++ m.drop (p + 1)) (Ev_c ?_) (Ev_n rfl)
        unfold impl_Block_51.f
        rw [if_pos ⟨by omega, by omega, by omega⟩, Int.toNat_natCast, dropL m p]
/-- A block put in. -/
theorem putin_ev (m : List Blk) (hl : (m.length : Int) ≤ 1048576) (hw : ∀ y ∈ m, (y.f2.size : Int) ≤ 1048576) (b : Blk) (hbw : (b.f2.size : Int) ≤ 1048576) : ∃ r c, r.length ≤ 1048576 ∧ Ev (fun k => spec_PutBlock.f k m b.f0 b.f1 b.f2) (r, c) ∧ Ev (fun k => impl_PutBlock.f k m b.f0 b.f1 b.f2) (r, c) := by
  obtain ⟨ok, e1, e2, hok⟩ := ok_ev m hl hw
  cases ok with
  | false =>
    refine ⟨[], 1, by simp, ?_, ?_⟩
    · simp only [spec_PutBlock.f]; refine Ev_b e1 (Ev_f (by decide) (Ev_suc ?_)); simp only [spec_PutBlock.j0]; exact Ev_t (by trivial) (Ev_n rfl)
    · simp only [impl_PutBlock.f]; refine Ev_b e2 (Ev_f (by decide) (Ev_suc ?_)); simp only [impl_PutBlock.j0]; exact Ev_t (by trivial) (Ev_n rfl)
  | true =>
    obtain ⟨hn, hr⟩ := hok rfl
    obtain ⟨vb, hvb⟩ := validB_ev b hbw
    have g1 : Ev (fun k => spec_l29One.f k [b]) vb := ⟨2000001, fun k hk => (hvb k (by omega)).1⟩
    have g2 : Ev (fun k => impl_ValidBlock.f k b.f0 b.f1 b.f2) vb := ⟨2000001, fun k hk => (hvb k (by omega)).2⟩
    cases vb with
    | false =>
      refine ⟨[], 1, by simp, ?_, ?_⟩
      · simp only [spec_PutBlock.f]; refine Ev_b e1 (Ev_t rfl (Ev_b g1 (Ev_suc ?_))); simp only [spec_PutBlock.j0]; exact Ev_t (by rfl) (Ev_n rfl)
      · simp only [impl_PutBlock.f]; refine Ev_b e2 (Ev_t rfl (Ev_b g2 (Ev_suc ?_))); simp only [impl_PutBlock.j0]; exact Ev_t (by rfl) (Ev_n rfl)
    | true =>
      have f1 := put_ev m hl b (hr _)
      have f2 : Ev (fun k => impl_Block_49.f k m b.f0 b.f1 b.f2) (((plc (fun x => cB (ckB x) (ckB b)) m : Nat) : Int), fnd (fun x => cB (ckB x) (ckB b)) m) := bs_ev m hl b.f0 b.f1 b.f2 (hr _)
      have cl : impl_Block_52.f m = some m := by unfold impl_Block_52.f; rw [if_pos (by omega)]
      have s1 : ∀ r c, (((putB m b).length : Int) > 32 → (r, c) = (([] : List Blk), (5 : Int))) → (¬ ((putB m b).length : Int) > 32 → (r, c) = (putB m b, (0 : Int))) → Ev (fun k => spec_PutBlock.f k m b.f0 b.f1 b.f2) (r, c) := by
        intro r c h1 h2
        simp only [spec_PutBlock.f]
        refine Ev_b e1 (Ev_t rfl (Ev_b g1 (Ev_suc ?_)))
        simp only [spec_PutBlock.j0]
        refine Ev_f (by decide) (Ev_b f1 ?_)
        by_cases h : ((putB m b).length : Int) > 32
        · exact Ev_t h (Ev_n (h1 h).symm)
        · exact Ev_f h (Ev_n (h2 h).symm)
      have hpl := plc_le (fun x => cB (ckB x) (ckB b)) m
      cases hf : fnd (fun x => cB (ckB x) (ckB b)) m with
      | true =>
        obtain ⟨hp, _⟩ := fnd_t hf
        have ep : putB m b = m.take (plc (fun x => cB (ckB x) (ckB b)) m) ++ b :: m.drop (plc (fun x => cB (ckB x) (ckB b)) m + 1) := by unfold putB; rw [if_pos hf]
        have el : (putB m b).length = m.length := by rw [ep]; simp; omega
        rw [hf] at f2
        refine ⟨putB m b, 0, by omega, s1 _ _ (fun h => by omega) (fun _ => rfl), ?_⟩
        simp only [impl_PutBlock.f]
        refine Ev_b e2 (Ev_t rfl (Ev_b g2 (Ev_suc ?_)))
        simp only [impl_PutBlock.j0]
        refine Ev_f (by decide) (Ev_b (Ev_c cl) (Ev_b f2 (Ev_t rfl (Ev_t (by show (0 : Int) ≤ _; omega) (Ev_t (by show _ < (m.length : Int); omega) (Ev_n ?_))))))
        rw [ep]
        simp only [Int.toNat_natCast, Prod.mk.injEq, and_true]
        rw [List.set_eq_take_append_cons_drop, if_pos hp]
      | false =>
        have ep : putB m b = m.take (plc (fun x => cB (ckB x) (ckB b)) m) ++ b :: m.drop (plc (fun x => cB (ckB x) (ckB b)) m) := by unfold putB; rw [if_neg (by rw [hf]; decide)]
        have el : (putB m b).length = m.length + 1 := by rw [ep]; simp; omega
        rw [hf] at f2
        by_cases hfull : (m.length : Int) = 32
        · refine ⟨[], 5, by simp, s1 _ _ (fun _ => rfl) (fun h => by omega), ?_⟩
          simp only [impl_PutBlock.f]
          refine Ev_b e2 (Ev_t rfl (Ev_b g2 (Ev_suc ?_)))
          simp only [impl_PutBlock.j0]
          exact Ev_f (by decide) (Ev_b (Ev_c cl) (Ev_b f2 (Ev_f (by simp) (Ev_t hfull (Ev_n rfl)))))
        · refine ⟨putB m b, 0, by omega, s1 _ _ (fun h => by omega) (fun _ => rfl), ?_⟩
          simp only [impl_PutBlock.f]
          refine Ev_b e2 (Ev_t rfl (Ev_b g2 (Ev_suc ?_)))
          simp only [impl_PutBlock.j0]
          refine Ev_f (by decide) (Ev_b (Ev_c cl) (Ev_b f2 (Ev_f (by simp) (Ev_f hfull ?_))))
          refine Ev_b (a := putB m b) (Ev_c ?_) (Ev_n rfl)
          unfold impl_Block_54.f
          simp only
          rw [if_pos ⟨by omega, by omega, by omega⟩, Int.toNat_natCast, ep, List.append_assoc]
          rfl
end Go.Proofs.Ytckboiphlhhckaa.Q
/- Own lemmas: the laws on lists of blocks, put together; written by wip/gen/claw.py. -/
namespace Go.Proofs.Ytckboiphlhhckaa.Q
open Go.RowKit Go.Proofs.YtckboiphlhhckaaW.PrintWords Go.Proofs.YtckboiphlhhckaaW.PrintLast Go.Proofs.YtckboiphlhhckaaW.PrintMore
set_option linter.unusedVariables false
theorem law_PutBlock : laws_FnExactPutBlock.Pure := by
  intro x b hx hb
  have hM : maxLen = 9223372036854775807 := by decide
  refine Ev.rounds (r := true) ?_
  simp only [laws_FnExactPutBlock.f]
  refine Ev_b (szS_Block x hx.1 hx.2 (1048576) (by omega) (by omega)) ?_
  by_cases cx : ((ZS_Block x : Nat) : Int) ≤ 1048576
  case neg => rw [cut_neg cx]; exact Ev_t (by decide) (Ev_n rfl)
  rw [cut_pos cx]
  refine Ev_f (by omega) ?_
  refine Ev_b (sz_Block b hb (1048576 - ((ZS_Block x : Nat) : Int)) (by omega) (by omega)) ?_
  by_cases cb : ((Z_Block b : Nat) : Int) ≤ 1048576 - ((ZS_Block x : Nat) : Int)
  case neg => rw [cut_neg cb]; exact Ev_t (by decide) (Ev_n rfl)
  rw [cut_pos cb]
  refine Ev_f (by omega) ?_
  have nx : (x.length : Int) ≤ 1048576 := by have := (ZS_in_Block x).1; omega
  have bx : ∀ y ∈ x, B_Block y := fun y hy => B_of_Block y (by have := (ZS_in_Block x).2 y hy; omega)
  have mx : ((x.map conv_Block).length : Int) ≤ 1048576 := by simpa using nx
  have Ex : ∀ y ∈ x.map conv_Block, E_Block y := fun y hy => by obtain ⟨u, hu, rfl⟩ := List.mem_map.1 hy; exact E_of_Block u (bx u hu)
  have tx := toS_Block x nx bx
  have qx := eqS_Block (x.map conv_Block) mx Ex
  have zx : ∀ y ∈ x.map conv_Block, ∃ u ∈ x, conv_Block u = y ∧ ((Z_Block u : Nat) : Int) ≤ 1048576 := fun y hy => by obtain ⟨u, hu, e⟩ := List.mem_map.1 hy; exact ⟨u, hu, e, by have := (ZS_in_Block x).2 u hu; omega⟩
  have bb : B_Block b := B_of_Block b (by omega)
  have tb := to_Block b bb
  obtain ⟨r0, r1, E0, e1, e2⟩ := putin_ev (x.map conv_Block) mx (fun y hy => by obtain ⟨u_, _, rfl, h_⟩ := zx y hy; unfold Z_Block at h_; show ((u_.f2.size : Nat) : Int) ≤ 1048576; omega) (conv_Block b) (by unfold Z_Block at cb; show ((b.f2.size : Nat) : Int) ≤ 1048576; omega)
  have qr0 := eqS_Block r0 (by omega) (by first | exact E_r0 | (intro y _; trivial))
  obtain ⟨px, _, mmx, _⟩ := mk_Block (x.map conv_Block) (1) (by omega) (by omega) (by omega)
  obtain ⟨pr0, _, mr0, hr0⟩ := mk_Block r0 1 (by omega) (by omega) (by omega)
  repeat' (first | ((first | (with_reducible refine Ev_b e1 ?_) | (with_reducible refine Ev_b e2 ?_) | (with_reducible refine Ev_b tx ?_) | (with_reducible refine Ev_b qx ?_) | (with_reducible refine Ev_b tb ?_) | (with_reducible refine Ev_b qr0 ?_) | (with_reducible refine Ev_b mmx ?_) | (with_reducible refine Ev_b mr0 ?_) | (with_reducible refine Ev_b hr0 ?_)); try dsimp only) | (with_reducible refine Ev_t rfl ?_) | (with_reducible refine Ev_t True.intro ?_) | (refine Ev_f (by omega) ?_) | (refine Ev_t (by omega) ?_) | (refine Ev_f (by simp) ?_) | exact Ev_n rfl | (refine Ev_suc ?_; first | simp only [laws_FnExactPutBlock.j0] | simp only [laws_FnExactPutBlock.j1] | simp only [laws_FnExactPutBlock.j2]))
end Go.Proofs.Ytckboiphlhhckaa.Q
/- A block put into a list, by the program as by the reference. -/
namespace Go.Proofs.Ytckboiphlhhckaa.Pure
open Go.Proofs.Ytckboiphlhhckaa.Q
theorem FnExactPutBlock : laws_FnExactPutBlock.Pure := law_PutBlock
end Go.Proofs.Ytckboiphlhhckaa.Pure
namespace Go.Proofs.Ytckboiphlhhckaa.fnExactPutBlock
open Go.ChangeShapes Go.WideShapes Go.ChangeAt Go.RowKit Go.Proofs.Ytckboiphlhhckaa.OPN Go.Proofs.Ytckboiphlhhckaa.Q Go.Proofs.YtckboiphlhhckaaW.PrintWords
open Go.ChangeMaps (open_string shut_string)
set_option linter.unusedVariables false
theorem own : ownKnob Try.prog.godebug = none := by kernel_rfl
theorem laidOut : laidOutB Try.prog = true := by kernel_rfl
set_option maxRecDepth 100000 in
theorem lifted (os : Os) (started : os.Started) (H : Type) (enc : TypeId × Value → H) :
    ReturnsInHanded {} Try.checked os 9 .any (Rows.fnExactPutBlockSpec.pre6 enc Try.prog Try.f9 Rows.fnExactPutBlockRow.domain false) (Rows.fnExactPutBlockSpec.post enc Try.prog Try.f9 false true false false) := by
  refine returnsInHanded_of_change_sized (C := Try.checked) own started (by kernel_rfl) Try.func9
    (ChangeSpec.witness6 (enc := enc) (C := Try.checked) false ⟨#[], #[.slice none 0 0, .agg #[.string ByteArray.empty, .string ByteArray.empty, .string ByteArray.empty]], []⟩ 8 (by kernel_rfl) (by kernel_rfl) (by kernel_rfl) (by kernel_rfl)) ?_
  intro W base args ds gs before hval0 hW hcnd hsz0 _
  have hval : ∀ (j : Nat) t v, Try.f9.params[j]? = some t → args[j]? = some v → Value.okWide Try.prog W .any base t v := hval0
  have hW' := hW
  obtain ⟨p, q, hA0, hV, rfl, hfz, hnd⟩ := hW
  have hA : DataW.TrodAll enc Try.prog W 0 (fun _ => true) true Try.f9.params.toList args.toList ds p := hA0
  rw [Try.params9] at hA hval
  obtain ⟨v0, vs0, d0, ds0, p0, q0, hargs, rfl, rfl, h0, r0⟩ := trodAll_cons hA
  obtain ⟨v1, vs1, d1, ds1, p1, q1, rfl, rfl, rfl, h1, r1⟩ := trodAll_cons r0
  obtain ⟨rfl, rfl, rfl⟩ := trodAll_nil r1
  obtain rfl : args = #[v0, v1] := by cases args; simp_all
  obtain ⟨rfl, rfl⟩ := trodVars_none hV
  have lt0 : ∀ x ∈ p0, x.block < W.heap.size := by obtain ⟨m, hm⟩ := h0; exact DataW.trod_lt m _ _ _ hm
  have k0 := h0
  obtain ⟨z0, y0, u0, rfl⟩ := okWide_slice Try.underlying22 (hval 0 22 v0 rfl rfl)
  obtain ⟨fu0, hf0⟩ := h0
  obtain ⟨x0, ⟨A0, c0, hcs0, hc0, hr0⟩, w0⟩ := ((opn_slice Try.underlying22 (by kernel_rfl) opn29) : Opn _ _ (Kd.slice 29 k29) _).get rfl hf0
  obtain ⟨rfl, rfl, rfl⟩ : A0 = z0 ∧ x0.length = y0 ∧ c0 = u0 := (fun (h_ : z0 = A0 ∧ y0 = x0.length ∧ u0 = c0) => ⟨h_.1.symm, h_.2.1.symm, h_.2.2.symm⟩) (by simpa [Value.cells] using hcs0)
  have lt1 : ∀ x ∈ p1, x.block < W.heap.size := by obtain ⟨m, hm⟩ := h1; exact DataW.trod_lt m _ _ _ hm
  have k1 := h1
  obtain ⟨cs1, rfl, hs1⟩ := okWide_struct Try.underlying29 (hval 1 29 v1 rfl rfl)
  obtain ⟨fu1, hf1⟩ := h1
  obtain ⟨x1, hK1, w1⟩ := opn29.get (by rw [← opn29.size, ← hs1]; simp [Value.cells]) hf1
  have hcs1 := k29_open hK1
  obtain rfl : cs1 = #[.string x1.f0, .string x1.f1, .string x1.f2] := by apply Array.ext'; exact hcs1
  clear hA0 hval0 hsz0
  obtain ⟨k, hP⟩ := Pure.FnExactPutBlock x0 x1 w0 w1
  refine (laws_FnExactPutBlock.calls k A0 c0 x0 x1.f0 x1.f1 x1.f2 true W hr0 hc0 hP).mono fun e W' hh => ?_
  obtain ⟨rfl, bel0⟩ := hh
  have bel : Below W.heap.size W W' := bel0
  exact ⟨_, rfl, _, _, _, [], _, [], hW', trodAll_mk1 (shut_bool Try.underlying4 _), (trodAll_cons_mk (Below.trod laidOut (by kernel_rfl) (of_decide_eq_true (by kernel_rfl)) k0 bel lt0) (trodAll_cons_mk (Below.trod laidOut (by kernel_rfl) (of_decide_eq_true (by kernel_rfl)) k1 bel lt1) trodAll_mk0)), rfl, bel.frame _, fun h => by cases h⟩
theorem over : Rows.fnExactPutBlockRow.holds Try.pinned (OpenSpec.ofChange Rows.fnExactPutBlockSpec) :=
  OpenClaim.holds_of_wide 9 Try.f9 rfl rfl rfl rfl rfl rfl rfl ⟨rfl, rfl, rfl, rfl, rfl⟩ rfl rfl rfl rfl rfl (by kernel_rfl) Try.func9 (by kernel_rfl)
    (of_decide_eq_true (by kernel_rfl)) (by unfold Func.isWrapper; first | (rw [if_pos (by decide +kernel)]; kernel_rfl) | (rw [if_neg (by decide +kernel)]; exact ⟨rfl, rfl⟩))
    (fun os started H enc _ => lifted os started H enc)
theorem proved : Rows.FnExactPutBlockSaid := over
#print axioms proved
end Go.Proofs.Ytckboiphlhhckaa.fnExactPutBlock
namespace Go.Proofs.Ytckboiphlhhckaa
/-- The row, under a short name, for the claim. -/
theorem fnExactPutBlock_holds : Rows.FnExactPutBlockSaid := fnExactPutBlock.proved
end Go.Proofs.Ytckboiphlhhckaa
