/- a byte of a line that changes costs the block of this line alone This text holds the functions' walks and the words for them. -/
import Derived.Test.YtjebkmfljcanlaaDoorKFnSalvagea
import Derived.Test.YtjebkmfljcanlaaDoorKFnSalvageb
set_option linter.unusedVariables false
set_option linter.unusedSimpArgs false
namespace Go.Proofs.YtjebkmfljcanlaaDoor.Q
open Go.RowKit Go.Proofs.YtjebkmfljcanlaaDoorW.PrintWords Go.Proofs.YtjebkmfljcanlaaDoorW.PrintLast Go.Proofs.YtjebkmfljcanlaaDoorW.PrintMore
attribute [local go_sem] aM_ aN_ be_ bc_ aC_ aD_ aL_ aK_
mutual
def aA_.l0 : Nat → List (S43) → List (S43) → Bool → Int → ByteArray → ByteArray → ByteArray → Option ((List (S43)))
 | 0, _, _, _, _, _, _, _ => none
 | k + 1, x0, x5, x6, x7, x102000, x102001, x102002 => if x7 < (x0.length : Int) then (if x6 = true then (aA_.j1 k x0 x5 x6 x7 false x102000 x102001 x102002) else (if 0 ≤ x7 then ((bx_.f [aa_ x0 x7] [(⟨x102000, x102001, x102002⟩ : S43)]).bind fun t109 => (aA_.j1 k x0 x5 x6 x7 (!t109) x102000 x102001 x102002)) else (none))) else (if x6 = true then (some x5) else (if x5.length < 2932031007402 then (some (x5 ++ [(⟨x102000, x102001, x102002⟩ : S43)])) else (none)))
def aA_.j1 : Nat → List (S43) → List (S43) → Bool → Int → Bool → ByteArray → ByteArray → ByteArray → Option ((List (S43)))
 | 0, _, _, _, _, _, _, _, _ => none
 | k + 1, x0, x5, x6, x7, x23, x102000, x102001, x102002 => if x23 = true then (if x5.length < 2932031007402 then ((some (x5 ++ [(⟨x102000, x102001, x102002⟩ : S43)] : List (S43))).bind fun y110 => (if 0 ≤ x7 then (if x7 < (x0.length : Int) then (if ((aa_ x0 x7).f0).toList = x102000.toList then (if ((aa_ x0 x7).f1).toList = x102001.toList then (aA_.l0 k x0 y110 true (wrap64 (x7 + 1)) x102000 x102001 x102002) else (if y110.length < 2932031007402 then (aA_.l0 k x0 (y110 ++ [(⟨(aa_ x0 x7).f0, (aa_ x0 x7).f1, (aa_ x0 x7).f2⟩ : S43)]) true (wrap64 (x7 + 1)) x102000 x102001 x102002) else (none))) else (if y110.length < 2932031007402 then (aA_.l0 k x0 (y110 ++ [(⟨(aa_ x0 x7).f0, (aa_ x0 x7).f1, (aa_ x0 x7).f2⟩ : S43)]) true (wrap64 (x7 + 1)) x102000 x102001 x102002) else (none))) else (none)) else (none))) else (none)) else (if 0 ≤ x7 then (if x7 < (x0.length : Int) then (if ((aa_ x0 x7).f0).toList = x102000.toList then (if ((aa_ x0 x7).f1).toList = x102001.toList then (aA_.l0 k x0 x5 x6 (wrap64 (x7 + 1)) x102000 x102001 x102002) else (if x5.length < 2932031007402 then (aA_.l0 k x0 (x5 ++ [(⟨(aa_ x0 x7).f0, (aa_ x0 x7).f1, (aa_ x0 x7).f2⟩ : S43)]) x6 (wrap64 (x7 + 1)) x102000 x102001 x102002) else (none))) else (if x5.length < 2932031007402 then (aA_.l0 k x0 (x5 ++ [(⟨(aa_ x0 x7).f0, (aa_ x0 x7).f1, (aa_ x0 x7).f2⟩ : S43)]) x6 (wrap64 (x7 + 1)) x102000 x102001 x102002) else (none))) else (none)) else (none))
end
def aA_.f (k : Nat) (l0 : List (S43)) (a1_0 : ByteArray) (a1_1 : ByteArray) (a1_2 : ByteArray) : Option ((List (S43))) := aA_.l0 k l0 (([] : List (S43))) false 0 a1_0 a1_1 a1_2
set_option maxHeartbeats 8000000 in
set_option maxRecDepth 100000 in
theorem aA_.calls (k : Nat) (A0 : Option Addr) (c0 : Nat) (l0 : List (S43)) (a1_0 : ByteArray) (a1_1 : ByteArray) (a1_2 : ByteArray) (r : List (S43)) (w : World) (hr0 : Kd.C k43 w A0 l0.length l0) (hc0 : l0.length ≤ c0) (h : aA_.f k l0 a1_0 a1_1 a1_2 = some r) :
  Calls Tryd.prog 39 #[.slice A0 l0.length c0, .agg #[.string a1_0, .string a1_1, .string a1_2]] w fun e w' => ∃ v0_ : Value, e = .returned (v0_) ∧ Kd.R k43 43 w' w.heap.size (fun _ => True) v0_ r ∧ Below w.heap.size w w' := by
 have hu43 := Tryd.underlying43
 have HR0 := Aside0.mk hr0
 have HC0 := Aside0.mk hc0
 clear hr0 hc0
 have HB := Aside0.mk (Below.refl w.heap.size w)
 have H : (aA_.l0 k l0 (([] : List (S43))) false 0 a1_0 a1_1 a1_2) = some r := h
 clear h
 obtain ⟨y102, hy102⟩ : ∃ y_ : List (S43), y_ = (([] : List (S43))) := ⟨_, rfl⟩
 replace H : (aA_.l0 k l0 y102 false 0 a1_0 a1_1 a1_2) = some r := by first | (rw [hy102]; with_reducible exact H) | (have H2_ := (Option.bind_some _ _).symm.trans H; rw [hy102]; with_reducible exact H2_) | (have H2_ := (Option.bind_some _ _).symm.trans H; with_reducible exact H2_) | with_reducible exact H | (rw [hy102]; exact H) | exact H
 have Ny102 := Aside0.mk hy102
 clear hy102
 have H' := Aside0.mk H
 clear H
 go_enter Tryd.func39, Tryd.ntmps39
 go_wp2_with (first | ((with_reducible refine aS_ (N := 3) rfl ?_); refine bB_ ?hg (N := 3) ?hd (cs := #[.string a1_0, .string a1_1, .string a1_2]) (t := 43) ?hr ?_; (case hd => rfl); (case hg => rfl); (case hr => (go_simp; try rfl)); intro gb101 hg w3 hbox hb; have BK101 := Aside0.mk (hbox); have GW101 := Aside0.mk ((by rw [hg]; exact (ak_ (bz HB.out)) : w.heap.size ≤ gb101)); have GE101 := GW101; replace HB := Aside0.mk (ah_ (bz HB.out) hb); clear hb hbox hg) | ((with_reducible refine aS_ (N := 8) rfl ?_); refine Kd.R_lit k43 _ 43 ?hg (N := 8) ?hd (xs := ([] : List (S43))) (inner := []) (ok := fun _ => True) (okp := fun _ => True) ?hr ?hp (fun _ hk => hk) trivial (Below.refl _ _) (Nat.le_refl _) (by simp) ?_; (case hd => rfl); (case hg => rfl); (case hr => (go_simp; try rfl)); (case hp => exact (Reps.none _ _)); intro v103 w4 ho5 hb hg_ hnew_; clear hg_ hnew_; (first | rw [← Ny102.out] at ho5 | (simp only [Int.reduceToNat] at ho5; rw [← Ny102.out] at ho5)); have HO104 := Aside0.mk (Kd.bw_ (Kd.R_newB ho5 (g := gb101) (o := .cells #[.string a1_0, .string a1_1, .string a1_2] 43 (0, 0)) (kz BK101.out)) (ak_ (bq))); replace BK101 := Aside0.mk (az_ (kz BK101.out) hb); replace HB := Aside0.mk (ah_ (bq) hb); clear hb ho5))
 repeat (go_quiet (first | ((with_reducible refine aS_ (N := 3) rfl ?_); refine bB_ ?hg (N := 3) ?hd (cs := #[.string a1_0, .string a1_1, .string a1_2]) (t := 43) ?hr ?_; (case hd => rfl); (case hg => rfl); (case hr => (go_simp; try rfl)); intro gb101 hg w3 hbox hb; have BK101 := Aside0.mk (hbox); have GW101 := Aside0.mk ((by rw [hg]; exact (ak_ (bz HB.out)) : w.heap.size ≤ gb101)); have GE101 := GW101; replace HB := Aside0.mk (ah_ (bz HB.out) hb); clear hb hbox hg) | ((with_reducible refine aS_ (N := 8) rfl ?_); refine Kd.R_lit k43 _ 43 ?hg (N := 8) ?hd (xs := ([] : List (S43))) (inner := []) (ok := fun _ => True) (okp := fun _ => True) ?hr ?hp (fun _ hk => hk) trivial (Below.refl _ _) (Nat.le_refl _) (by simp) ?_; (case hd => rfl); (case hg => rfl); (case hr => (go_simp; try rfl)); (case hp => exact (Reps.none _ _)); intro v103 w4 ho5 hb hg_ hnew_; clear hg_ hnew_; (first | rw [← Ny102.out] at ho5 | (simp only [Int.reduceToNat] at ho5; rw [← Ny102.out] at ho5)); have HO104 := Aside0.mk (Kd.bw_ (Kd.R_newB ho5 (g := gb101) (o := .cells #[.string a1_0, .string a1_1, .string a1_2] 43 (0, 0)) (kz BK101.out)) (ak_ (bq))); replace BK101 := Aside0.mk (az_ (kz BK101.out) hb); replace HB := Aside0.mk (ah_ (bq) hb); clear hb ho5)); try go_wp2_with (first | ((with_reducible refine aS_ (N := 3) rfl ?_); refine bB_ ?hg (N := 3) ?hd (cs := #[.string a1_0, .string a1_1, .string a1_2]) (t := 43) ?hr ?_; (case hd => rfl); (case hg => rfl); (case hr => (go_simp; try rfl)); intro gb101 hg w3 hbox hb; have BK101 := Aside0.mk (hbox); have GW101 := Aside0.mk ((by rw [hg]; exact (ak_ (bz HB.out)) : w.heap.size ≤ gb101)); have GE101 := GW101; replace HB := Aside0.mk (ah_ (bz HB.out) hb); clear hb hbox hg) | ((with_reducible refine aS_ (N := 8) rfl ?_); refine Kd.R_lit k43 _ 43 ?hg (N := 8) ?hd (xs := ([] : List (S43))) (inner := []) (ok := fun _ => True) (okp := fun _ => True) ?hr ?hp (fun _ hk => hk) trivial (Below.refl _ _) (Nat.le_refl _) (by simp) ?_; (case hd => rfl); (case hg => rfl); (case hr => (go_simp; try rfl)); (case hp => exact (Reps.none _ _)); intro v103 w4 ho5 hb hg_ hnew_; clear hg_ hnew_; (first | rw [← Ny102.out] at ho5 | (simp only [Int.reduceToNat] at ho5; rw [← Ny102.out] at ho5)); have HO104 := Aside0.mk (Kd.bw_ (Kd.R_newB ho5 (g := gb101) (o := .cells #[.string a1_0, .string a1_1, .string a1_2] 43 (0, 0)) (kz BK101.out)) (ak_ (bq))); replace BK101 := Aside0.mk (az_ (kz BK101.out) hb); replace HB := Aside0.mk (ah_ (bq) hb); clear hb ho5)))
 (try simp only [Act.put, lsa_, ls0_, ls1_])
 go_loopg [5, 6, 7] k (fun kq v5 v6 v7 w' => ∃ (x5_1 : List (S43)) (x6_1 : Bool) (x7_1 : Int), v6 = .bool x6_1 ∧ v7 = .int .i64 x7_1 ∧ Aside0 (aA_.l0 kq l0 x5_1 x6_1 x7_1 a1_0 a1_1 a1_2 = some r) ∧ Aside0 (kq ≤ k) ∧ Aside0 (Kd.R k43 43 w' w.heap.size (fun k_ => k_ ≠ gb101) v5 x5_1) ∧ Aside0 (w'.heap[gb101]? = some (.cells #[.string a1_0, .string a1_1, .string a1_2] 43 (0, 0))) ∧ Aside0 (Below w.heap.size w w'))
 case atStart => exact ⟨(y102), (false), (0), (by first | rfl | (simp; done) | (simp [*]; done)), (by first | rfl | (simp; done) | (simp [*]; done)), H', ⟨Nat.le_refl _⟩, ⟨rz (Kd.aG_ HO104.out (fun _ hk => hk.2))⟩, ⟨by (with_reducible repeat (first | refine bj_ ?_ _ | refine aX_ ?_ | refine aU_ ?_ _)); exact BK101.out⟩, ⟨bq⟩⟩
 case round =>
  clear H'
  obtain ⟨x5_1, x6_1, x7_1, rfl, rfl, HA, HK1, HO_5, BK101, HB⟩ := hrel
  cases gk with
  | zero => exact absurd HA.out (by simp [aA_.l0])
  | succ k1 =>
   have H := HA.out
   clear HA
   simp only [aA_.l0] at H
   by_cases c6 : x7_1 < (l0.length : Int)
   rotate_left
   ·rw [if_neg c6] at H
    have c6b0 : decide (x7_1 < (l0.length : Int)) = false := decide_eq_false c6
    clear c6
    by_cases c39 : x6_1 = true
    rotate_left
    ·replace c39 := Bool.eq_false_iff.mpr c39
     subst c39
     have H1 : (if x5_1.length < 2932031007402 then (some (x5_1 ++ [(⟨a1_0, a1_1, a1_2⟩ : S43)])) else (none)) = some r := by rw [if_neg (show ¬ (false = true) by decide)] at H; exact H
     clear H
     have H := H1
     clear H1
     by_cases c40 : x5_1.length < 2932031007402
     rotate_left
     ·rw [if_neg c40] at H
      exact absurd H (by simp)
     rw [if_pos c40] at H
     have LMc40 := Aside0.mk c40
     clear c40
     obtain ⟨y105, hy105⟩ : ∃ y_ : List (S43), y_ = (x5_1 ++ [(⟨a1_0, a1_1, a1_2⟩ : S43)]) := ⟨_, rfl⟩
     replace H : (some y105) = some r := by first | (rw [hy105]; with_reducible exact H) | (have H2_ := (Option.bind_some _ _).symm.trans H; rw [hy105]; with_reducible exact H2_) | (have H2_ := (Option.bind_some _ _).symm.trans H; with_reducible exact H2_) | with_reducible exact H | (rw [hy105]; exact H) | exact H
     have Ny105 := Aside0.mk hy105
     clear hy105
     obtain rfl := Option.some.inj H
     obtain ⟨hcz41_0, hcz41_1, hcz41_2⟩ := cz3_ BK101.out
     obtain ⟨hfz41_0, hfz41_1, hfz41_2⟩ := fz3_ BK101.out
     go_wp2_with (first | ((with_reducible refine aY_ (b := .append) (xs := #[.tmp 55, .tmp 57]) rfl ?_); at_builtin; refine Kd.bM_ k43 (w0 := w) w.heap.size rfl (.tmp 55) (.tmp 57) 27 43 (.agg #[(.string ⟨#[]⟩), (.string ⟨#[]⟩), (.string ⟨#[]⟩)]) 48 rfl Tryd.underlying27 cs_ rfl (by decide) (by omega) u5 x5_1 (⟨a1_0, a1_1, a1_2⟩ : S43) [.string a1_0, .string a1_1, .string a1_2] (fun k_ => k_ ≠ gb101) (fun _ => False) rfl rfl ?aP (fun _ hk => hk.elim) ?aF ?aO ?aB ?aS ?aL ?_; (case aP => exact cf_ _ _ _ (⟨a1_0, a1_1, a1_2⟩ : S43)); (case aB => exact (bq)); (case aF => exact (fun k_ hk => Kd.cz_ (g := gb101) (o := .cells #[.string a1_0, .string a1_1, .string a1_2] 43 (0, 0)) (kz BK101.out) k_ hk)); (case aO => exact (rz HO_5.out)); (case aS => exact (ak_ (bq))); (case aL => have := LMc40.out; omega); intro v106 w42 ho hb hg hat; rw [← Ny105.out] at ho; replace BK101 := Aside0.mk (bH_ (g := gb101) (o := .cells #[.string a1_0, .string a1_1, .string a1_2] 43 (0, 0)) (kz BK101.out) hg (Kd.cv_ HO_5.out (fun _ hk => hk))); replace HB := Aside0.mk (hb); have HO107 := Aside0.mk (ho); clear HO_5; clear ho hb hg hat))
     repeat (go_quiet (first | ((with_reducible refine aY_ (b := .append) (xs := #[.tmp 55, .tmp 57]) rfl ?_); at_builtin; refine Kd.bM_ k43 (w0 := w) w.heap.size rfl (.tmp 55) (.tmp 57) 27 43 (.agg #[(.string ⟨#[]⟩), (.string ⟨#[]⟩), (.string ⟨#[]⟩)]) 48 rfl Tryd.underlying27 cs_ rfl (by decide) (by omega) u5 x5_1 (⟨a1_0, a1_1, a1_2⟩ : S43) [.string a1_0, .string a1_1, .string a1_2] (fun k_ => k_ ≠ gb101) (fun _ => False) rfl rfl ?aP (fun _ hk => hk.elim) ?aF ?aO ?aB ?aS ?aL ?_; (case aP => exact cf_ _ _ _ (⟨a1_0, a1_1, a1_2⟩ : S43)); (case aB => exact (bq)); (case aF => exact (fun k_ hk => Kd.cz_ (g := gb101) (o := .cells #[.string a1_0, .string a1_1, .string a1_2] 43 (0, 0)) (kz BK101.out) k_ hk)); (case aO => exact (rz HO_5.out)); (case aS => exact (ak_ (bq))); (case aL => have := LMc40.out; omega); intro v106 w42 ho hb hg hat; rw [← Ny105.out] at ho; replace BK101 := Aside0.mk (bH_ (g := gb101) (o := .cells #[.string a1_0, .string a1_1, .string a1_2] 43 (0, 0)) (kz BK101.out) hg (Kd.cv_ HO_5.out (fun _ hk => hk))); replace HB := Aside0.mk (hb); have HO107 := Aside0.mk (ho); clear HO_5; clear ho hb hg hat)); try go_wp2_with (first | ((with_reducible refine aY_ (b := .append) (xs := #[.tmp 55, .tmp 57]) rfl ?_); at_builtin; refine Kd.bM_ k43 (w0 := w) w.heap.size rfl (.tmp 55) (.tmp 57) 27 43 (.agg #[(.string ⟨#[]⟩), (.string ⟨#[]⟩), (.string ⟨#[]⟩)]) 48 rfl Tryd.underlying27 cs_ rfl (by decide) (by omega) u5 x5_1 (⟨a1_0, a1_1, a1_2⟩ : S43) [.string a1_0, .string a1_1, .string a1_2] (fun k_ => k_ ≠ gb101) (fun _ => False) rfl rfl ?aP (fun _ hk => hk.elim) ?aF ?aO ?aB ?aS ?aL ?_; (case aP => exact cf_ _ _ _ (⟨a1_0, a1_1, a1_2⟩ : S43)); (case aB => exact (bq)); (case aF => exact (fun k_ hk => Kd.cz_ (g := gb101) (o := .cells #[.string a1_0, .string a1_1, .string a1_2] 43 (0, 0)) (kz BK101.out) k_ hk)); (case aO => exact (rz HO_5.out)); (case aS => exact (ak_ (bq))); (case aL => have := LMc40.out; omega); intro v106 w42 ho hb hg hat; rw [← Ny105.out] at ho; replace BK101 := Aside0.mk (bH_ (g := gb101) (o := .cells #[.string a1_0, .string a1_1, .string a1_2] 43 (0, 0)) (kz BK101.out) hg (Kd.cv_ HO_5.out (fun _ hk => hk))); replace HB := Aside0.mk (hb); have HO107 := Aside0.mk (ho); clear HO_5; clear ho hb hg hat)))
     go_ret
     exact ⟨_, by first | rfl | (simp [*, aw_, av_] <;> rfl), rz (Kd.aG_ HO107.out (fun _ hk => trivial)), bq⟩
    subst c39
    have H1 : (some x5_1) = some r := by rw [if_pos rfl] at H; exact H
    clear H
    have H := H1
    clear H1
    obtain rfl := Option.some.inj H
    go_wp2
    repeat (go_quiet (fail); try go_wp2)
    go_ret
    exact ⟨_, by first | rfl | (simp [*, aw_, av_] <;> rfl), rz (Kd.aG_ HO_5.out (fun _ hk => trivial)), bq⟩
   rw [if_pos c6] at H
   have c6b0 : decide (x7_1 < (l0.length : Int)) = true := decide_eq_true c6
   clear c6
   have HC7 := Aside0.mk H
   clear H
   go_upto_region 6 with (fail)
   repeat (go_quiet (fail); go_upto_region 6 with (fail))
   go_cut [23] (fun v23 wc => ∃ (kq : Nat) (x23_6 : Bool), v23 = .bool x23_6 ∧ Aside0 (aA_.j1 kq l0 x5_1 x6_1 x7_1 x23_6 a1_0 a1_1 a1_2 = some r) ∧ Aside0 (kq ≤ k1) ∧ Aside0 (Kd.R k43 43 wc w.heap.size (fun k_ => k_ ≠ gb101) u5 x5_1) ∧ Aside0 (wc.heap[gb101]? = some (.cells #[.string a1_0, .string a1_1, .string a1_2] 43 (0, 0))) ∧ Aside0 (Below w.heap.size w wc))
   case first =>
    have H := HC7.out
    clear HC7
    by_cases c8 : x6_1 = true
    rotate_left
    ·replace c8 := Bool.eq_false_iff.mpr c8
     subst c8
     have H1 : (if 0 ≤ x7_1 then ((bx_.f [aa_ l0 x7_1] [(⟨a1_0, a1_1, a1_2⟩ : S43)]).bind fun t109 => (aA_.j1 k1 l0 x5_1 false x7_1 (!t109) a1_0 a1_1 a1_2)) else (none)) = some r := by rw [if_neg (show ¬ (false = true) by decide)] at H; exact H
     clear H
     have H := H1
     clear H1
     by_cases c9 : 0 ≤ x7_1
     rotate_left
     ·rw [if_neg c9] at H
      exact absurd H (by simp)
     rw [if_pos c9] at H
     have c9b0 : decide (0 ≤ x7_1) = true := decide_eq_true c9
     clear c9
     (first | rw [c9b0] | (simp only [i64_w, i32_w]; rw [c9b0]) | (simp only [c9b1, Bool.not_true, Bool.not_false]) | (simp only [c9b0, Bool.not_true, Bool.not_false]) | skip)
     replace H := Option.bind_eq_some_iff.mp H
     obtain ⟨t109, A100, H⟩ := H
     (try dsimp only at H)
     have A10 := Aside0.mk A100
     clear A100
     have H' := Aside0.mk H
     clear H
     have p108 : 0 ≤ (x7_1 : Int) := of_decide_eq_true (by assumption)
     have q108 : x7_1 < (l0.length : Int) := of_decide_eq_true (by assumption)
     obtain ⟨ad108, e108, hx108_0, hx108_1, hx108_2⟩ := br_ HR0.out x7_1 p108 q108
     cases e108
     replace hx108_0 := bu_ HB.out hx108_0
     replace hx108_1 := bu_ HB.out hx108_1
     replace hx108_2 := bu_ HB.out hx108_2
     replace p108 := eq_true p108
     replace q108 := eq_true q108
     go_wp2_with (first | (go_at_call 31; (with_reducible refine (bx_.calls _ [aa_ l0 x7_1] _ [(⟨a1_0, a1_1, a1_2⟩ : S43)] t109 _ ?side1 ?side2 A10.out).mono ?_); (case side1 => exact (RPW.cT_ (ad := ad108) (n := l0.length) (xs := l0) z43 (i := x7_1) (by first | exact of_eq_true p108 | exact p108 | omega) (by first | exact of_eq_true q108 | exact q108 | omega) (by first | exact (Kd.bW_ HR0.out HB.out) | exact cz (Kd.bW_ HR0.out HB.out)))); (case side2 => exact (RPW.C_blk (cs := [.string a1_0, .string a1_1, .string a1_2]) (t := 43) (g := gb101) (kz BK101.out) (k43_mk _ (⟨a1_0, a1_1, a1_2⟩ : S43)))); rintro e w' ⟨rfl, ⟨nd, rfl⟩⟩; (try first | exact ⟨rfl, _, World.drewN_drewN _ _ _⟩ | exact ⟨rfl, _, Eq.trans (World.drewN_drewN _ _ _) (congrArg (World.drewN _) (Nat.add_assoc _ _ _))⟩)))
     repeat (go_quiet (first | (go_at_call 31; (with_reducible refine (bx_.calls _ [aa_ l0 x7_1] _ [(⟨a1_0, a1_1, a1_2⟩ : S43)] t109 _ ?side1 ?side2 A10.out).mono ?_); (case side1 => exact (RPW.cT_ (ad := ad108) (n := l0.length) (xs := l0) z43 (i := x7_1) (by first | exact of_eq_true p108 | exact p108 | omega) (by first | exact of_eq_true q108 | exact q108 | omega) (by first | exact (Kd.bW_ HR0.out HB.out) | exact cz (Kd.bW_ HR0.out HB.out)))); (case side2 => exact (RPW.C_blk (cs := [.string a1_0, .string a1_1, .string a1_2]) (t := 43) (g := gb101) (kz BK101.out) (k43_mk _ (⟨a1_0, a1_1, a1_2⟩ : S43)))); rintro e w' ⟨rfl, ⟨nd, rfl⟩⟩; (try first | exact ⟨rfl, _, World.drewN_drewN _ _ _⟩ | exact ⟨rfl, _, Eq.trans (World.drewN_drewN _ _ _) (congrArg (World.drewN _) (Nat.add_assoc _ _ _))⟩))); try go_wp2_with (first | (go_at_call 31; (with_reducible refine (bx_.calls _ [aa_ l0 x7_1] _ [(⟨a1_0, a1_1, a1_2⟩ : S43)] t109 _ ?side1 ?side2 A10.out).mono ?_); (case side1 => exact (RPW.cT_ (ad := ad108) (n := l0.length) (xs := l0) z43 (i := x7_1) (by first | exact of_eq_true p108 | exact p108 | omega) (by first | exact of_eq_true q108 | exact q108 | omega) (by first | exact (Kd.bW_ HR0.out HB.out) | exact cz (Kd.bW_ HR0.out HB.out)))); (case side2 => exact (RPW.C_blk (cs := [.string a1_0, .string a1_1, .string a1_2]) (t := 43) (g := gb101) (kz BK101.out) (k43_mk _ (⟨a1_0, a1_1, a1_2⟩ : S43)))); rintro e w' ⟨rfl, ⟨nd, rfl⟩⟩; (try first | exact ⟨rfl, _, World.drewN_drewN _ _ _⟩ | exact ⟨rfl, _, Eq.trans (World.drewN_drewN _ _ _) (congrArg (World.drewN _) (Nat.add_assoc _ _ _))⟩))))
     go_meet
     case rel => exact ⟨_, (!t109), (by first | rfl | (simp; done) | (simp [*]; done)), H', ⟨by have := HK1.out; first | omega | exact Nat.le_refl _⟩, ⟨rz HO_5.out⟩, ⟨by (with_reducible repeat (first | refine bj_ ?_ _ | refine aX_ ?_ | refine aU_ ?_ _)); exact BK101.out⟩, ⟨bq⟩⟩
    subst c8
    have H1 : (aA_.j1 k1 l0 x5_1 true x7_1 false a1_0 a1_1 a1_2) = some r := by rw [if_pos rfl] at H; exact H
    clear H
    have H := H1
    clear H1
    have H' := Aside0.mk H
    clear H
    go_wp2
    repeat (go_quiet (fail); try go_wp2)
    go_meet
    case rel => exact ⟨_, (false), (by first | rfl | (simp; done) | (simp [*]; done)), H', ⟨by have := HK1.out; first | omega | exact Nat.le_refl _⟩, ⟨rz HO_5.out⟩, ⟨by (with_reducible repeat (first | refine bj_ ?_ _ | refine aX_ ?_ | refine aU_ ?_ _)); exact BK101.out⟩, ⟨bq⟩⟩
   case rest =>
    clear HC7
    obtain ⟨kq, x23_6, rfl, HA, HJ6, HO_5, BK101, HB⟩ := hcut
    cases kq with
    | zero => exact absurd HA.out (by simp [aA_.j1])
    | succ kj6 =>
     have H := HA.out
     clear HA
     simp only [aA_.j1] at H
     by_cases c11 : x23_6 = true
     rotate_left
     ·replace c11 := Bool.eq_false_iff.mpr c11
      subst c11
      have H1 : (if 0 ≤ x7_1 then (if x7_1 < (l0.length : Int) then (if ((aa_ l0 x7_1).f0).toList = a1_0.toList then (if ((aa_ l0 x7_1).f1).toList = a1_1.toList then (aA_.l0 kj6 l0 x5_1 x6_1 (wrap64 (x7_1 + 1)) a1_0 a1_1 a1_2) else (if x5_1.length < 2932031007402 then (aA_.l0 kj6 l0 (x5_1 ++ [(⟨(aa_ l0 x7_1).f0, (aa_ l0 x7_1).f1, (aa_ l0 x7_1).f2⟩ : S43)]) x6_1 (wrap64 (x7_1 + 1)) a1_0 a1_1 a1_2) else (none))) else (if x5_1.length < 2932031007402 then (aA_.l0 kj6 l0 (x5_1 ++ [(⟨(aa_ l0 x7_1).f0, (aa_ l0 x7_1).f1, (aa_ l0 x7_1).f2⟩ : S43)]) x6_1 (wrap64 (x7_1 + 1)) a1_0 a1_1 a1_2) else (none))) else (none)) else (none)) = some r := by rw [if_neg (show ¬ (false = true) by decide)] at H; exact H
      clear H
      have H := H1
      clear H1
      by_cases c28 : 0 ≤ x7_1
      rotate_left
      ·rw [if_neg c28] at H
       exact absurd H (by simp)
      rw [if_pos c28] at H
      have c28b0 : decide (0 ≤ x7_1) = true := decide_eq_true c28
      clear c28
      by_cases c29 : x7_1 < (l0.length : Int)
      rotate_left
      ·rw [if_neg c29] at H
       exact absurd H (by simp)
      rw [if_pos c29] at H
      have c29b0 : decide (x7_1 < (l0.length : Int)) = true := decide_eq_true c29
      clear c29
      by_cases c30 : ((aa_ l0 x7_1).f0).toList = a1_0.toList
      rotate_left
      ·rw [if_neg c30] at H
       have c30b0 : (((aa_ l0 x7_1).f0).toList == a1_0.toList) = false := beq_eq_false_iff_ne.mpr c30
       have c30b1 : (((aa_ l0 x7_1).f0).toList != a1_0.toList) = true := bne_iff_ne.mpr c30
       by_cases c36 : x5_1.length < 2932031007402
       rotate_left
       ·rw [if_neg c36] at H
        exact absurd H (by simp)
       rw [if_pos c36] at H
       have LMc36 := Aside0.mk c36
       clear c36
       obtain ⟨y130, hy130⟩ : ∃ y_ : List (S43), y_ = (x5_1 ++ [(⟨(aa_ l0 x7_1).f0, (aa_ l0 x7_1).f1, (aa_ l0 x7_1).f2⟩ : S43)]) := ⟨_, rfl⟩
       replace H : (aA_.l0 kj6 l0 y130 x6_1 (wrap64 (x7_1 + 1)) a1_0 a1_1 a1_2) = some r := by first | (rw [hy130]; with_reducible exact H) | (have H2_ := (Option.bind_some _ _).symm.trans H; rw [hy130]; with_reducible exact H2_) | (have H2_ := (Option.bind_some _ _).symm.trans H; with_reducible exact H2_) | with_reducible exact H | (rw [hy130]; exact H) | exact H
       have Ny130 := Aside0.mk hy130
       clear hy130
       have H' := Aside0.mk H
       clear H
       have p123 : 0 ≤ (x7_1 : Int) := of_decide_eq_true (by assumption)
       have q123 : x7_1 < (l0.length : Int) := of_decide_eq_true (by assumption)
       obtain ⟨ad123, e123, hx123_0, hx123_1, hx123_2⟩ := br_ HR0.out x7_1 p123 q123
       cases e123
       replace hx123_0 := bu_ HB.out hx123_0
       replace hx123_1 := bu_ HB.out hx123_1
       replace hx123_2 := bu_ HB.out hx123_2
       replace p123 := eq_true p123
       replace q123 := eq_true q123
       obtain ⟨hcz37_0, hcz37_1, hcz37_2⟩ := cz3_ BK101.out
       obtain ⟨hfz37_0, hfz37_1, hfz37_2⟩ := fz3_ BK101.out
       have p129 : 0 ≤ (x7_1 : Int) := of_decide_eq_true (by assumption)
       have q129 : x7_1 < (l0.length : Int) := of_decide_eq_true (by assumption)
       obtain ⟨ad129, e129, hx129_0, hx129_1, hx129_2⟩ := br_ HR0.out x7_1 p129 q129
       obtain rfl : ad123 = ad129 := (by injection e129)
       replace hx129_0 := bu_ HB.out hx129_0
       replace hx129_1 := bu_ HB.out hx129_1
       replace hx129_2 := bu_ HB.out hx129_2
       replace p129 := eq_true p129
       replace q129 := eq_true q129
       go_wp2_with (first | ((with_reducible refine aY_ (b := .append) (xs := #[.tmp 46, .tmp 51]) rfl ?_); at_builtin; refine Kd.bM_ k43 (w0 := w) w.heap.size rfl (.tmp 46) (.tmp 51) 27 43 (.agg #[(.string ⟨#[]⟩), (.string ⟨#[]⟩), (.string ⟨#[]⟩)]) 48 rfl Tryd.underlying27 cs_ rfl (by decide) (by omega) u5 x5_1 (⟨(aa_ l0 x7_1).f0, (aa_ l0 x7_1).f1, (aa_ l0 x7_1).f2⟩ : S43) [.string ((aa_ l0 x7_1).f0), .string ((aa_ l0 x7_1).f1), .string ((aa_ l0 x7_1).f2)] (fun k_ => k_ ≠ gb101) (fun _ => False) rfl rfl ?aP (fun _ hk => hk.elim) ?aF ?aO ?aB ?aS ?aL ?_; (case aP => exact cf_ _ _ _ (⟨(aa_ l0 x7_1).f0, (aa_ l0 x7_1).f1, (aa_ l0 x7_1).f2⟩ : S43)); (case aB => exact (bq)); (case aF => exact (fun k_ hk => Kd.cz_ (g := gb101) (o := .cells #[.string a1_0, .string a1_1, .string a1_2] 43 (0, 0)) (kz BK101.out) k_ hk)); (case aO => exact (rz HO_5.out)); (case aS => exact (ak_ (bq))); (case aL => have := LMc36.out; omega); intro v131 w38 ho hb hg hat; rw [← Ny130.out] at ho; replace BK101 := Aside0.mk (bH_ (g := gb101) (o := .cells #[.string a1_0, .string a1_1, .string a1_2] 43 (0, 0)) (kz BK101.out) hg (Kd.cv_ HO_5.out (fun _ hk => hk))); replace HB := Aside0.mk (hb); have HO132 := Aside0.mk (ho); clear HO_5; clear ho hb hg hat))
       repeat (go_quiet (first | ((with_reducible refine aY_ (b := .append) (xs := #[.tmp 46, .tmp 51]) rfl ?_); at_builtin; refine Kd.bM_ k43 (w0 := w) w.heap.size rfl (.tmp 46) (.tmp 51) 27 43 (.agg #[(.string ⟨#[]⟩), (.string ⟨#[]⟩), (.string ⟨#[]⟩)]) 48 rfl Tryd.underlying27 cs_ rfl (by decide) (by omega) u5 x5_1 (⟨(aa_ l0 x7_1).f0, (aa_ l0 x7_1).f1, (aa_ l0 x7_1).f2⟩ : S43) [.string ((aa_ l0 x7_1).f0), .string ((aa_ l0 x7_1).f1), .string ((aa_ l0 x7_1).f2)] (fun k_ => k_ ≠ gb101) (fun _ => False) rfl rfl ?aP (fun _ hk => hk.elim) ?aF ?aO ?aB ?aS ?aL ?_; (case aP => exact cf_ _ _ _ (⟨(aa_ l0 x7_1).f0, (aa_ l0 x7_1).f1, (aa_ l0 x7_1).f2⟩ : S43)); (case aB => exact (bq)); (case aF => exact (fun k_ hk => Kd.cz_ (g := gb101) (o := .cells #[.string a1_0, .string a1_1, .string a1_2] 43 (0, 0)) (kz BK101.out) k_ hk)); (case aO => exact (rz HO_5.out)); (case aS => exact (ak_ (bq))); (case aL => have := LMc36.out; omega); intro v131 w38 ho hb hg hat; rw [← Ny130.out] at ho; replace BK101 := Aside0.mk (bH_ (g := gb101) (o := .cells #[.string a1_0, .string a1_1, .string a1_2] 43 (0, 0)) (kz BK101.out) hg (Kd.cv_ HO_5.out (fun _ hk => hk))); replace HB := Aside0.mk (hb); have HO132 := Aside0.mk (ho); clear HO_5; clear ho hb hg hat)); try go_wp2_with (first | ((with_reducible refine aY_ (b := .append) (xs := #[.tmp 46, .tmp 51]) rfl ?_); at_builtin; refine Kd.bM_ k43 (w0 := w) w.heap.size rfl (.tmp 46) (.tmp 51) 27 43 (.agg #[(.string ⟨#[]⟩), (.string ⟨#[]⟩), (.string ⟨#[]⟩)]) 48 rfl Tryd.underlying27 cs_ rfl (by decide) (by omega) u5 x5_1 (⟨(aa_ l0 x7_1).f0, (aa_ l0 x7_1).f1, (aa_ l0 x7_1).f2⟩ : S43) [.string ((aa_ l0 x7_1).f0), .string ((aa_ l0 x7_1).f1), .string ((aa_ l0 x7_1).f2)] (fun k_ => k_ ≠ gb101) (fun _ => False) rfl rfl ?aP (fun _ hk => hk.elim) ?aF ?aO ?aB ?aS ?aL ?_; (case aP => exact cf_ _ _ _ (⟨(aa_ l0 x7_1).f0, (aa_ l0 x7_1).f1, (aa_ l0 x7_1).f2⟩ : S43)); (case aB => exact (bq)); (case aF => exact (fun k_ hk => Kd.cz_ (g := gb101) (o := .cells #[.string a1_0, .string a1_1, .string a1_2] 43 (0, 0)) (kz BK101.out) k_ hk)); (case aO => exact (rz HO_5.out)); (case aS => exact (ak_ (bq))); (case aL => have := LMc36.out; omega); intro v131 w38 ho hb hg hat; rw [← Ny130.out] at ho; replace BK101 := Aside0.mk (bH_ (g := gb101) (o := .cells #[.string a1_0, .string a1_1, .string a1_2] 43 (0, 0)) (kz BK101.out) hg (Kd.cv_ HO_5.out (fun _ hk => hk))); replace HB := Aside0.mk (hb); have HO132 := Aside0.mk (ho); clear HO_5; clear ho hb hg hat)))
       go_roundg kj6
       case measure => have := HK1.out; have := HJ6.out; omega
       case rel => exact ⟨(y130), (x6_1), (wrap64 (x7_1 + 1)), (by first | rfl | (simp; done) | (simp [*]; done)), (by first | rfl | (simp; done) | (simp [*]; done)), H', ⟨by have := HK1.out; have := HJ6.out; omega⟩, ⟨rz HO132.out⟩, ⟨by (with_reducible repeat (first | refine bj_ ?_ _ | refine aX_ ?_ | refine aU_ ?_ _)); exact BK101.out⟩, ⟨bq⟩⟩
      rw [if_pos c30] at H
      have c30b0 : (((aa_ l0 x7_1).f0).toList == a1_0.toList) = true := beq_iff_eq.mpr c30
      have c30b1 : (((aa_ l0 x7_1).f0).toList != a1_0.toList) = false := bne_eq_false_iff_eq.mpr c30
      clear c30
      by_cases c31 : ((aa_ l0 x7_1).f1).toList = a1_1.toList
      rotate_left
      ·rw [if_neg c31] at H
       have c31b0 : (((aa_ l0 x7_1).f1).toList == a1_1.toList) = false := beq_eq_false_iff_ne.mpr c31
       have c31b1 : (((aa_ l0 x7_1).f1).toList != a1_1.toList) = true := bne_iff_ne.mpr c31
       by_cases c33 : x5_1.length < 2932031007402
       rotate_left
       ·rw [if_neg c33] at H
        exact absurd H (by simp)
       rw [if_pos c33] at H
       have LMc33 := Aside0.mk c33
       clear c33
       obtain ⟨y126, hy126⟩ : ∃ y_ : List (S43), y_ = (x5_1 ++ [(⟨(aa_ l0 x7_1).f0, (aa_ l0 x7_1).f1, (aa_ l0 x7_1).f2⟩ : S43)]) := ⟨_, rfl⟩
       replace H : (aA_.l0 kj6 l0 y126 x6_1 (wrap64 (x7_1 + 1)) a1_0 a1_1 a1_2) = some r := by first | (rw [hy126]; with_reducible exact H) | (have H2_ := (Option.bind_some _ _).symm.trans H; rw [hy126]; with_reducible exact H2_) | (have H2_ := (Option.bind_some _ _).symm.trans H; with_reducible exact H2_) | with_reducible exact H | (rw [hy126]; exact H) | exact H
       have Ny126 := Aside0.mk hy126
       clear hy126
       have H' := Aside0.mk H
       clear H
       have p123 : 0 ≤ (x7_1 : Int) := of_decide_eq_true (by assumption)
       have q123 : x7_1 < (l0.length : Int) := of_decide_eq_true (by assumption)
       obtain ⟨ad123, e123, hx123_0, hx123_1, hx123_2⟩ := br_ HR0.out x7_1 p123 q123
       cases e123
       replace hx123_0 := bu_ HB.out hx123_0
       replace hx123_1 := bu_ HB.out hx123_1
       replace hx123_2 := bu_ HB.out hx123_2
       replace p123 := eq_true p123
       replace q123 := eq_true q123
       obtain ⟨hcz34_0, hcz34_1, hcz34_2⟩ := cz3_ BK101.out
       obtain ⟨hfz34_0, hfz34_1, hfz34_2⟩ := fz3_ BK101.out
       have p124 : 0 ≤ (x7_1 : Int) := of_decide_eq_true (by assumption)
       have q124 : x7_1 < (l0.length : Int) := of_decide_eq_true (by assumption)
       obtain ⟨ad124, e124, hx124_0, hx124_1, hx124_2⟩ := br_ HR0.out x7_1 p124 q124
       obtain rfl : ad123 = ad124 := (by injection e124)
       replace hx124_0 := bu_ HB.out hx124_0
       replace hx124_1 := bu_ HB.out hx124_1
       replace hx124_2 := bu_ HB.out hx124_2
       replace p124 := eq_true p124
       replace q124 := eq_true q124
       have p125 : 0 ≤ (x7_1 : Int) := of_decide_eq_true (by assumption)
       have q125 : x7_1 < (l0.length : Int) := of_decide_eq_true (by assumption)
       obtain ⟨ad125, e125, hx125_0, hx125_1, hx125_2⟩ := br_ HR0.out x7_1 p125 q125
       obtain rfl : ad123 = ad125 := (by injection e125)
       replace hx125_0 := bu_ HB.out hx125_0
       replace hx125_1 := bu_ HB.out hx125_1
       replace hx125_2 := bu_ HB.out hx125_2
       replace p125 := eq_true p125
       replace q125 := eq_true q125
       go_wp2_with (first | ((with_reducible refine aY_ (b := .append) (xs := #[.tmp 46, .tmp 51]) rfl ?_); at_builtin; refine Kd.bM_ k43 (w0 := w) w.heap.size rfl (.tmp 46) (.tmp 51) 27 43 (.agg #[(.string ⟨#[]⟩), (.string ⟨#[]⟩), (.string ⟨#[]⟩)]) 48 rfl Tryd.underlying27 cs_ rfl (by decide) (by omega) u5 x5_1 (⟨(aa_ l0 x7_1).f0, (aa_ l0 x7_1).f1, (aa_ l0 x7_1).f2⟩ : S43) [.string ((aa_ l0 x7_1).f0), .string ((aa_ l0 x7_1).f1), .string ((aa_ l0 x7_1).f2)] (fun k_ => k_ ≠ gb101) (fun _ => False) rfl rfl ?aP (fun _ hk => hk.elim) ?aF ?aO ?aB ?aS ?aL ?_; (case aP => exact cf_ _ _ _ (⟨(aa_ l0 x7_1).f0, (aa_ l0 x7_1).f1, (aa_ l0 x7_1).f2⟩ : S43)); (case aB => exact (bq)); (case aF => exact (fun k_ hk => Kd.cz_ (g := gb101) (o := .cells #[.string a1_0, .string a1_1, .string a1_2] 43 (0, 0)) (kz BK101.out) k_ hk)); (case aO => exact (rz HO_5.out)); (case aS => exact (ak_ (bq))); (case aL => have := LMc33.out; omega); intro v127 w35 ho hb hg hat; rw [← Ny126.out] at ho; replace BK101 := Aside0.mk (bH_ (g := gb101) (o := .cells #[.string a1_0, .string a1_1, .string a1_2] 43 (0, 0)) (kz BK101.out) hg (Kd.cv_ HO_5.out (fun _ hk => hk))); replace HB := Aside0.mk (hb); have HO128 := Aside0.mk (ho); clear HO_5; clear ho hb hg hat))
       repeat (go_quiet (first | ((with_reducible refine aY_ (b := .append) (xs := #[.tmp 46, .tmp 51]) rfl ?_); at_builtin; refine Kd.bM_ k43 (w0 := w) w.heap.size rfl (.tmp 46) (.tmp 51) 27 43 (.agg #[(.string ⟨#[]⟩), (.string ⟨#[]⟩), (.string ⟨#[]⟩)]) 48 rfl Tryd.underlying27 cs_ rfl (by decide) (by omega) u5 x5_1 (⟨(aa_ l0 x7_1).f0, (aa_ l0 x7_1).f1, (aa_ l0 x7_1).f2⟩ : S43) [.string ((aa_ l0 x7_1).f0), .string ((aa_ l0 x7_1).f1), .string ((aa_ l0 x7_1).f2)] (fun k_ => k_ ≠ gb101) (fun _ => False) rfl rfl ?aP (fun _ hk => hk.elim) ?aF ?aO ?aB ?aS ?aL ?_; (case aP => exact cf_ _ _ _ (⟨(aa_ l0 x7_1).f0, (aa_ l0 x7_1).f1, (aa_ l0 x7_1).f2⟩ : S43)); (case aB => exact (bq)); (case aF => exact (fun k_ hk => Kd.cz_ (g := gb101) (o := .cells #[.string a1_0, .string a1_1, .string a1_2] 43 (0, 0)) (kz BK101.out) k_ hk)); (case aO => exact (rz HO_5.out)); (case aS => exact (ak_ (bq))); (case aL => have := LMc33.out; omega); intro v127 w35 ho hb hg hat; rw [← Ny126.out] at ho; replace BK101 := Aside0.mk (bH_ (g := gb101) (o := .cells #[.string a1_0, .string a1_1, .string a1_2] 43 (0, 0)) (kz BK101.out) hg (Kd.cv_ HO_5.out (fun _ hk => hk))); replace HB := Aside0.mk (hb); have HO128 := Aside0.mk (ho); clear HO_5; clear ho hb hg hat)); try go_wp2_with (first | ((with_reducible refine aY_ (b := .append) (xs := #[.tmp 46, .tmp 51]) rfl ?_); at_builtin; refine Kd.bM_ k43 (w0 := w) w.heap.size rfl (.tmp 46) (.tmp 51) 27 43 (.agg #[(.string ⟨#[]⟩), (.string ⟨#[]⟩), (.string ⟨#[]⟩)]) 48 rfl Tryd.underlying27 cs_ rfl (by decide) (by omega) u5 x5_1 (⟨(aa_ l0 x7_1).f0, (aa_ l0 x7_1).f1, (aa_ l0 x7_1).f2⟩ : S43) [.string ((aa_ l0 x7_1).f0), .string ((aa_ l0 x7_1).f1), .string ((aa_ l0 x7_1).f2)] (fun k_ => k_ ≠ gb101) (fun _ => False) rfl rfl ?aP (fun _ hk => hk.elim) ?aF ?aO ?aB ?aS ?aL ?_; (case aP => exact cf_ _ _ _ (⟨(aa_ l0 x7_1).f0, (aa_ l0 x7_1).f1, (aa_ l0 x7_1).f2⟩ : S43)); (case aB => exact (bq)); (case aF => exact (fun k_ hk => Kd.cz_ (g := gb101) (o := .cells #[.string a1_0, .string a1_1, .string a1_2] 43 (0, 0)) (kz BK101.out) k_ hk)); (case aO => exact (rz HO_5.out)); (case aS => exact (ak_ (bq))); (case aL => have := LMc33.out; omega); intro v127 w35 ho hb hg hat; rw [← Ny126.out] at ho; replace BK101 := Aside0.mk (bH_ (g := gb101) (o := .cells #[.string a1_0, .string a1_1, .string a1_2] 43 (0, 0)) (kz BK101.out) hg (Kd.cv_ HO_5.out (fun _ hk => hk))); replace HB := Aside0.mk (hb); have HO128 := Aside0.mk (ho); clear HO_5; clear ho hb hg hat)))
       go_roundg kj6
       case measure => have := HK1.out; have := HJ6.out; omega
       case rel => exact ⟨(y126), (x6_1), (wrap64 (x7_1 + 1)), (by first | rfl | (simp; done) | (simp [*]; done)), (by first | rfl | (simp; done) | (simp [*]; done)), H', ⟨by have := HK1.out; have := HJ6.out; omega⟩, ⟨rz HO128.out⟩, ⟨by (with_reducible repeat (first | refine bj_ ?_ _ | refine aX_ ?_ | refine aU_ ?_ _)); exact BK101.out⟩, ⟨bq⟩⟩
      rw [if_pos c31] at H
      have c31b0 : (((aa_ l0 x7_1).f1).toList == a1_1.toList) = true := beq_iff_eq.mpr c31
      have c31b1 : (((aa_ l0 x7_1).f1).toList != a1_1.toList) = false := bne_eq_false_iff_eq.mpr c31
      clear c31
      have H' := Aside0.mk H
      clear H
      have p123 : 0 ≤ (x7_1 : Int) := of_decide_eq_true (by assumption)
      have q123 : x7_1 < (l0.length : Int) := of_decide_eq_true (by assumption)
      obtain ⟨ad123, e123, hx123_0, hx123_1, hx123_2⟩ := br_ HR0.out x7_1 p123 q123
      cases e123
      replace hx123_0 := bu_ HB.out hx123_0
      replace hx123_1 := bu_ HB.out hx123_1
      replace hx123_2 := bu_ HB.out hx123_2
      replace p123 := eq_true p123
      replace q123 := eq_true q123
      obtain ⟨hcz32_0, hcz32_1, hcz32_2⟩ := cz3_ BK101.out
      obtain ⟨hfz32_0, hfz32_1, hfz32_2⟩ := fz3_ BK101.out
      have p124 : 0 ≤ (x7_1 : Int) := of_decide_eq_true (by assumption)
      have q124 : x7_1 < (l0.length : Int) := of_decide_eq_true (by assumption)
      obtain ⟨ad124, e124, hx124_0, hx124_1, hx124_2⟩ := br_ HR0.out x7_1 p124 q124
      obtain rfl : ad123 = ad124 := (by injection e124)
      replace hx124_0 := bu_ HB.out hx124_0
      replace hx124_1 := bu_ HB.out hx124_1
      replace hx124_2 := bu_ HB.out hx124_2
      replace p124 := eq_true p124
      replace q124 := eq_true q124
      go_wp2
      repeat (go_quiet (fail); try go_wp2)
      go_roundg kj6
      case measure => have := HK1.out; have := HJ6.out; omega
      case rel => exact ⟨(x5_1), (x6_1), (wrap64 (x7_1 + 1)), (by first | rfl | (simp; done) | (simp [*]; done)), (by first | rfl | (simp; done) | (simp [*]; done)), H', ⟨by have := HK1.out; have := HJ6.out; omega⟩, ⟨rz HO_5.out⟩, ⟨by (with_reducible repeat (first | refine bj_ ?_ _ | refine aX_ ?_ | refine aU_ ?_ _)); exact BK101.out⟩, ⟨bq⟩⟩
     subst c11
     have H1 : (if x5_1.length < 2932031007402 then ((some (x5_1 ++ [(⟨a1_0, a1_1, a1_2⟩ : S43)] : List (S43))).bind fun y110 => (if 0 ≤ x7_1 then (if x7_1 < (l0.length : Int) then (if ((aa_ l0 x7_1).f0).toList = a1_0.toList then (if ((aa_ l0 x7_1).f1).toList = a1_1.toList then (aA_.l0 kj6 l0 y110 true (wrap64 (x7_1 + 1)) a1_0 a1_1 a1_2) else (if y110.length < 2932031007402 then (aA_.l0 kj6 l0 (y110 ++ [(⟨(aa_ l0 x7_1).f0, (aa_ l0 x7_1).f1, (aa_ l0 x7_1).f2⟩ : S43)]) true (wrap64 (x7_1 + 1)) a1_0 a1_1 a1_2) else (none))) else (if y110.length < 2932031007402 then (aA_.l0 kj6 l0 (y110 ++ [(⟨(aa_ l0 x7_1).f0, (aa_ l0 x7_1).f1, (aa_ l0 x7_1).f2⟩ : S43)]) true (wrap64 (x7_1 + 1)) a1_0 a1_1 a1_2) else (none))) else (none)) else (none))) else (none)) = some r := by rw [if_pos rfl] at H; exact H
     clear H
     have H := H1
     clear H1
     by_cases c12 : x5_1.length < 2932031007402
     rotate_left
     ·rw [if_neg c12] at H
      exact absurd H (by simp)
     rw [if_pos c12] at H
     have LMc12 := Aside0.mk c12
     clear c12
     obtain ⟨y110, hy110⟩ : ∃ y_ : List (S43), y_ = (x5_1 ++ [(⟨a1_0, a1_1, a1_2⟩ : S43)]) := ⟨_, rfl⟩
     replace H : (if 0 ≤ x7_1 then (if x7_1 < (l0.length : Int) then (if ((aa_ l0 x7_1).f0).toList = a1_0.toList then (if ((aa_ l0 x7_1).f1).toList = a1_1.toList then (aA_.l0 kj6 l0 y110 true (wrap64 (x7_1 + 1)) a1_0 a1_1 a1_2) else (if y110.length < 2932031007402 then (aA_.l0 kj6 l0 (y110 ++ [(⟨(aa_ l0 x7_1).f0, (aa_ l0 x7_1).f1, (aa_ l0 x7_1).f2⟩ : S43)]) true (wrap64 (x7_1 + 1)) a1_0 a1_1 a1_2) else (none))) else (if y110.length < 2932031007402 then (aA_.l0 kj6 l0 (y110 ++ [(⟨(aa_ l0 x7_1).f0, (aa_ l0 x7_1).f1, (aa_ l0 x7_1).f2⟩ : S43)]) true (wrap64 (x7_1 + 1)) a1_0 a1_1 a1_2) else (none))) else (none)) else (none)) = some r := by first | (rw [hy110]; with_reducible exact H) | (have H2_ := (Option.bind_some _ _).symm.trans H; rw [hy110]; with_reducible exact H2_) | (have H2_ := (Option.bind_some _ _).symm.trans H; with_reducible exact H2_) | with_reducible exact H | (rw [hy110]; exact H) | exact H
     have Ny110 := Aside0.mk hy110
     clear hy110
     by_cases c13 : 0 ≤ x7_1
     rotate_left
     ·rw [if_neg c13] at H
      exact absurd H (by simp)
     rw [if_pos c13] at H
     have c13b0 : decide (0 ≤ x7_1) = true := decide_eq_true c13
     clear c13
     by_cases c14 : x7_1 < (l0.length : Int)
     rotate_left
     ·rw [if_neg c14] at H
      exact absurd H (by simp)
     rw [if_pos c14] at H
     have c14b0 : decide (x7_1 < (l0.length : Int)) = true := decide_eq_true c14
     clear c14
     by_cases c15 : ((aa_ l0 x7_1).f0).toList = a1_0.toList
     rotate_left
     ·rw [if_neg c15] at H
      have c15b0 : (((aa_ l0 x7_1).f0).toList == a1_0.toList) = false := beq_eq_false_iff_ne.mpr c15
      have c15b1 : (((aa_ l0 x7_1).f0).toList != a1_0.toList) = true := bne_iff_ne.mpr c15
      by_cases c23 : y110.length < 2932031007402
      rotate_left
      ·rw [if_neg c23] at H
       exact absurd H (by simp)
      rw [if_pos c23] at H
      have LMc23 := Aside0.mk c23
      clear c23
      obtain ⟨y120, hy120⟩ : ∃ y_ : List (S43), y_ = (y110 ++ [(⟨(aa_ l0 x7_1).f0, (aa_ l0 x7_1).f1, (aa_ l0 x7_1).f2⟩ : S43)]) := ⟨_, rfl⟩
      replace H : (aA_.l0 kj6 l0 y120 true (wrap64 (x7_1 + 1)) a1_0 a1_1 a1_2) = some r := by first | (rw [hy120]; with_reducible exact H) | (have H2_ := (Option.bind_some _ _).symm.trans H; rw [hy120]; with_reducible exact H2_) | (have H2_ := (Option.bind_some _ _).symm.trans H; with_reducible exact H2_) | with_reducible exact H | (rw [hy120]; exact H) | exact H
      have Ny120 := Aside0.mk hy120
      clear hy120
      have H' := Aside0.mk H
      clear H
      obtain ⟨hcz24_0, hcz24_1, hcz24_2⟩ := cz3_ BK101.out
      obtain ⟨hfz24_0, hfz24_1, hfz24_2⟩ := fz3_ BK101.out
      go_wp2_with (first | ((with_reducible refine aY_ (b := .append) (xs := #[.tmp 24, .tmp 26]) rfl ?_); at_builtin; refine Kd.bM_ k43 (w0 := w) w.heap.size rfl (.tmp 24) (.tmp 26) 27 43 (.agg #[(.string ⟨#[]⟩), (.string ⟨#[]⟩), (.string ⟨#[]⟩)]) 48 rfl Tryd.underlying27 cs_ rfl (by decide) (by omega) u5 x5_1 (⟨a1_0, a1_1, a1_2⟩ : S43) [.string a1_0, .string a1_1, .string a1_2] (fun k_ => k_ ≠ gb101) (fun _ => False) rfl rfl ?aP (fun _ hk => hk.elim) ?aF ?aO ?aB ?aS ?aL ?_; (case aP => exact cf_ _ _ _ (⟨a1_0, a1_1, a1_2⟩ : S43)); (case aB => exact (bq)); (case aF => exact (fun k_ hk => Kd.cz_ (g := gb101) (o := .cells #[.string a1_0, .string a1_1, .string a1_2] 43 (0, 0)) (kz BK101.out) k_ hk)); (case aO => exact (rz HO_5.out)); (case aS => exact (ak_ (bq))); (case aL => have := LMc12.out; omega); intro v111 w25 ho hb hg hat; rw [← Ny110.out] at ho; replace BK101 := Aside0.mk (bH_ (g := gb101) (o := .cells #[.string a1_0, .string a1_1, .string a1_2] 43 (0, 0)) (kz BK101.out) hg (Kd.cv_ HO_5.out (fun _ hk => hk))); replace HB := Aside0.mk (hb); have HO112 := Aside0.mk (ho); clear HO_5; clear ho hb hg hat; have p113 : 0 ≤ (x7_1 : Int) := of_decide_eq_true (by assumption); have q113 : x7_1 < (l0.length : Int) := of_decide_eq_true (by assumption); obtain ⟨ad113, e113, hx113_0, hx113_1, hx113_2⟩ := br_ HR0.out x7_1 p113 q113; cases e113; replace hx113_0 := bu_ HB.out hx113_0; replace hx113_1 := bu_ HB.out hx113_1; replace hx113_2 := bu_ HB.out hx113_2; replace p113 := eq_true p113; replace q113 := eq_true q113; obtain ⟨hcz26_0, hcz26_1, hcz26_2⟩ := cz3_ BK101.out; obtain ⟨hfz26_0, hfz26_1, hfz26_2⟩ := fz3_ BK101.out; have p119 : 0 ≤ (x7_1 : Int) := of_decide_eq_true (by assumption); have q119 : x7_1 < (l0.length : Int) := of_decide_eq_true (by assumption); obtain ⟨ad119, e119, hx119_0, hx119_1, hx119_2⟩ := br_ HR0.out x7_1 p119 q119; obtain rfl : ad113 = ad119 := (by injection e119); replace hx119_0 := bu_ HB.out hx119_0; replace hx119_1 := bu_ HB.out hx119_1; replace hx119_2 := bu_ HB.out hx119_2; replace p119 := eq_true p119; replace q119 := eq_true q119) | ((with_reducible refine aY_ (b := .append) (xs := #[.tmp 46, .tmp 51]) rfl ?_); at_builtin; refine Kd.bM_ k43 (w0 := w) w.heap.size rfl (.tmp 46) (.tmp 51) 27 43 (.agg #[(.string ⟨#[]⟩), (.string ⟨#[]⟩), (.string ⟨#[]⟩)]) 48 rfl Tryd.underlying27 cs_ rfl (by decide) (by omega) v111 y110 (⟨(aa_ l0 x7_1).f0, (aa_ l0 x7_1).f1, (aa_ l0 x7_1).f2⟩ : S43) [.string ((aa_ l0 x7_1).f0), .string ((aa_ l0 x7_1).f1), .string ((aa_ l0 x7_1).f2)] (fun k_ => k_ ≠ gb101) (fun _ => False) rfl rfl ?aP (fun _ hk => hk.elim) ?aF ?aO ?aB ?aS ?aL ?_; (case aP => exact cf_ _ _ _ (⟨(aa_ l0 x7_1).f0, (aa_ l0 x7_1).f1, (aa_ l0 x7_1).f2⟩ : S43)); (case aB => exact (bq)); (case aF => exact (fun k_ hk => Kd.cz_ (g := gb101) (o := .cells #[.string a1_0, .string a1_1, .string a1_2] 43 (0, 0)) (kz BK101.out) k_ hk)); (case aO => exact (rz HO112.out)); (case aS => exact (ak_ (bq))); (case aL => have := LMc23.out; omega); intro v121 w27 ho hb hg hat; rw [← Ny120.out] at ho; replace BK101 := Aside0.mk (bH_ (g := gb101) (o := .cells #[.string a1_0, .string a1_1, .string a1_2] 43 (0, 0)) (kz BK101.out) hg (Kd.cv_ HO112.out (fun _ hk => hk))); replace HB := Aside0.mk (hb); have HO122 := Aside0.mk (ho); clear HO112; clear ho hb hg hat))
      repeat (go_quiet (first | ((with_reducible refine aY_ (b := .append) (xs := #[.tmp 24, .tmp 26]) rfl ?_); at_builtin; refine Kd.bM_ k43 (w0 := w) w.heap.size rfl (.tmp 24) (.tmp 26) 27 43 (.agg #[(.string ⟨#[]⟩), (.string ⟨#[]⟩), (.string ⟨#[]⟩)]) 48 rfl Tryd.underlying27 cs_ rfl (by decide) (by omega) u5 x5_1 (⟨a1_0, a1_1, a1_2⟩ : S43) [.string a1_0, .string a1_1, .string a1_2] (fun k_ => k_ ≠ gb101) (fun _ => False) rfl rfl ?aP (fun _ hk => hk.elim) ?aF ?aO ?aB ?aS ?aL ?_; (case aP => exact cf_ _ _ _ (⟨a1_0, a1_1, a1_2⟩ : S43)); (case aB => exact (bq)); (case aF => exact (fun k_ hk => Kd.cz_ (g := gb101) (o := .cells #[.string a1_0, .string a1_1, .string a1_2] 43 (0, 0)) (kz BK101.out) k_ hk)); (case aO => exact (rz HO_5.out)); (case aS => exact (ak_ (bq))); (case aL => have := LMc12.out; omega); intro v111 w25 ho hb hg hat; rw [← Ny110.out] at ho; replace BK101 := Aside0.mk (bH_ (g := gb101) (o := .cells #[.string a1_0, .string a1_1, .string a1_2] 43 (0, 0)) (kz BK101.out) hg (Kd.cv_ HO_5.out (fun _ hk => hk))); replace HB := Aside0.mk (hb); have HO112 := Aside0.mk (ho); clear HO_5; clear ho hb hg hat; have p113 : 0 ≤ (x7_1 : Int) := of_decide_eq_true (by assumption); have q113 : x7_1 < (l0.length : Int) := of_decide_eq_true (by assumption); obtain ⟨ad113, e113, hx113_0, hx113_1, hx113_2⟩ := br_ HR0.out x7_1 p113 q113; cases e113; replace hx113_0 := bu_ HB.out hx113_0; replace hx113_1 := bu_ HB.out hx113_1; replace hx113_2 := bu_ HB.out hx113_2; replace p113 := eq_true p113; replace q113 := eq_true q113; obtain ⟨hcz26_0, hcz26_1, hcz26_2⟩ := cz3_ BK101.out; obtain ⟨hfz26_0, hfz26_1, hfz26_2⟩ := fz3_ BK101.out; have p119 : 0 ≤ (x7_1 : Int) := of_decide_eq_true (by assumption); have q119 : x7_1 < (l0.length : Int) := of_decide_eq_true (by assumption); obtain ⟨ad119, e119, hx119_0, hx119_1, hx119_2⟩ := br_ HR0.out x7_1 p119 q119; obtain rfl : ad113 = ad119 := (by injection e119); replace hx119_0 := bu_ HB.out hx119_0; replace hx119_1 := bu_ HB.out hx119_1; replace hx119_2 := bu_ HB.out hx119_2; replace p119 := eq_true p119; replace q119 := eq_true q119) | ((with_reducible refine aY_ (b := .append) (xs := #[.tmp 46, .tmp 51]) rfl ?_); at_builtin; refine Kd.bM_ k43 (w0 := w) w.heap.size rfl (.tmp 46) (.tmp 51) 27 43 (.agg #[(.string ⟨#[]⟩), (.string ⟨#[]⟩), (.string ⟨#[]⟩)]) 48 rfl Tryd.underlying27 cs_ rfl (by decide) (by omega) v111 y110 (⟨(aa_ l0 x7_1).f0, (aa_ l0 x7_1).f1, (aa_ l0 x7_1).f2⟩ : S43) [.string ((aa_ l0 x7_1).f0), .string ((aa_ l0 x7_1).f1), .string ((aa_ l0 x7_1).f2)] (fun k_ => k_ ≠ gb101) (fun _ => False) rfl rfl ?aP (fun _ hk => hk.elim) ?aF ?aO ?aB ?aS ?aL ?_; (case aP => exact cf_ _ _ _ (⟨(aa_ l0 x7_1).f0, (aa_ l0 x7_1).f1, (aa_ l0 x7_1).f2⟩ : S43)); (case aB => exact (bq)); (case aF => exact (fun k_ hk => Kd.cz_ (g := gb101) (o := .cells #[.string a1_0, .string a1_1, .string a1_2] 43 (0, 0)) (kz BK101.out) k_ hk)); (case aO => exact (rz HO112.out)); (case aS => exact (ak_ (bq))); (case aL => have := LMc23.out; omega); intro v121 w27 ho hb hg hat; rw [← Ny120.out] at ho; replace BK101 := Aside0.mk (bH_ (g := gb101) (o := .cells #[.string a1_0, .string a1_1, .string a1_2] 43 (0, 0)) (kz BK101.out) hg (Kd.cv_ HO112.out (fun _ hk => hk))); replace HB := Aside0.mk (hb); have HO122 := Aside0.mk (ho); clear HO112; clear ho hb hg hat)); try go_wp2_with (first | ((with_reducible refine aY_ (b := .append) (xs := #[.tmp 24, .tmp 26]) rfl ?_); at_builtin; refine Kd.bM_ k43 (w0 := w) w.heap.size rfl (.tmp 24) (.tmp 26) 27 43 (.agg #[(.string ⟨#[]⟩), (.string ⟨#[]⟩), (.string ⟨#[]⟩)]) 48 rfl Tryd.underlying27 cs_ rfl (by decide) (by omega) u5 x5_1 (⟨a1_0, a1_1, a1_2⟩ : S43) [.string a1_0, .string a1_1, .string a1_2] (fun k_ => k_ ≠ gb101) (fun _ => False) rfl rfl ?aP (fun _ hk => hk.elim) ?aF ?aO ?aB ?aS ?aL ?_; (case aP => exact cf_ _ _ _ (⟨a1_0, a1_1, a1_2⟩ : S43)); (case aB => exact (bq)); (case aF => exact (fun k_ hk => Kd.cz_ (g := gb101) (o := .cells #[.string a1_0, .string a1_1, .string a1_2] 43 (0, 0)) (kz BK101.out) k_ hk)); (case aO => exact (rz HO_5.out)); (case aS => exact (ak_ (bq))); (case aL => have := LMc12.out; omega); intro v111 w25 ho hb hg hat; rw [← Ny110.out] at ho; replace BK101 := Aside0.mk (bH_ (g := gb101) (o := .cells #[.string a1_0, .string a1_1, .string a1_2] 43 (0, 0)) (kz BK101.out) hg (Kd.cv_ HO_5.out (fun _ hk => hk))); replace HB := Aside0.mk (hb); have HO112 := Aside0.mk (ho); clear HO_5; clear ho hb hg hat; have p113 : 0 ≤ (x7_1 : Int) := of_decide_eq_true (by assumption); have q113 : x7_1 < (l0.length : Int) := of_decide_eq_true (by assumption); obtain ⟨ad113, e113, hx113_0, hx113_1, hx113_2⟩ := br_ HR0.out x7_1 p113 q113; cases e113; replace hx113_0 := bu_ HB.out hx113_0; replace hx113_1 := bu_ HB.out hx113_1; replace hx113_2 := bu_ HB.out hx113_2; replace p113 := eq_true p113; replace q113 := eq_true q113; obtain ⟨hcz26_0, hcz26_1, hcz26_2⟩ := cz3_ BK101.out; obtain ⟨hfz26_0, hfz26_1, hfz26_2⟩ := fz3_ BK101.out; have p119 : 0 ≤ (x7_1 : Int) := of_decide_eq_true (by assumption); have q119 : x7_1 < (l0.length : Int) := of_decide_eq_true (by assumption); obtain ⟨ad119, e119, hx119_0, hx119_1, hx119_2⟩ := br_ HR0.out x7_1 p119 q119; obtain rfl : ad113 = ad119 := (by injection e119); replace hx119_0 := bu_ HB.out hx119_0; replace hx119_1 := bu_ HB.out hx119_1; replace hx119_2 := bu_ HB.out hx119_2; replace p119 := eq_true p119; replace q119 := eq_true q119) | ((with_reducible refine aY_ (b := .append) (xs := #[.tmp 46, .tmp 51]) rfl ?_); at_builtin; refine Kd.bM_ k43 (w0 := w) w.heap.size rfl (.tmp 46) (.tmp 51) 27 43 (.agg #[(.string ⟨#[]⟩), (.string ⟨#[]⟩), (.string ⟨#[]⟩)]) 48 rfl Tryd.underlying27 cs_ rfl (by decide) (by omega) v111 y110 (⟨(aa_ l0 x7_1).f0, (aa_ l0 x7_1).f1, (aa_ l0 x7_1).f2⟩ : S43) [.string ((aa_ l0 x7_1).f0), .string ((aa_ l0 x7_1).f1), .string ((aa_ l0 x7_1).f2)] (fun k_ => k_ ≠ gb101) (fun _ => False) rfl rfl ?aP (fun _ hk => hk.elim) ?aF ?aO ?aB ?aS ?aL ?_; (case aP => exact cf_ _ _ _ (⟨(aa_ l0 x7_1).f0, (aa_ l0 x7_1).f1, (aa_ l0 x7_1).f2⟩ : S43)); (case aB => exact (bq)); (case aF => exact (fun k_ hk => Kd.cz_ (g := gb101) (o := .cells #[.string a1_0, .string a1_1, .string a1_2] 43 (0, 0)) (kz BK101.out) k_ hk)); (case aO => exact (rz HO112.out)); (case aS => exact (ak_ (bq))); (case aL => have := LMc23.out; omega); intro v121 w27 ho hb hg hat; rw [← Ny120.out] at ho; replace BK101 := Aside0.mk (bH_ (g := gb101) (o := .cells #[.string a1_0, .string a1_1, .string a1_2] 43 (0, 0)) (kz BK101.out) hg (Kd.cv_ HO112.out (fun _ hk => hk))); replace HB := Aside0.mk (hb); have HO122 := Aside0.mk (ho); clear HO112; clear ho hb hg hat)))
      go_roundg kj6
      case measure => have := HK1.out; have := HJ6.out; omega
      case rel => exact ⟨(y120), (true), (wrap64 (x7_1 + 1)), (by first | rfl | (simp; done) | (simp [*]; done)), (by first | rfl | (simp; done) | (simp [*]; done)), H', ⟨by have := HK1.out; have := HJ6.out; omega⟩, ⟨rz HO122.out⟩, ⟨by (with_reducible repeat (first | refine bj_ ?_ _ | refine aX_ ?_ | refine aU_ ?_ _)); exact BK101.out⟩, ⟨bq⟩⟩
     rw [if_pos c15] at H
     have c15b0 : (((aa_ l0 x7_1).f0).toList == a1_0.toList) = true := beq_iff_eq.mpr c15
     have c15b1 : (((aa_ l0 x7_1).f0).toList != a1_0.toList) = false := bne_eq_false_iff_eq.mpr c15
     clear c15
     have HC16 := Aside0.mk H
     clear H
     obtain ⟨hcz17_0, hcz17_1, hcz17_2⟩ := cz3_ BK101.out
     obtain ⟨hfz17_0, hfz17_1, hfz17_2⟩ := fz3_ BK101.out
     go_upto_if 45 with (first | ((with_reducible refine aY_ (b := .append) (xs := #[.tmp 24, .tmp 26]) rfl ?_); at_builtin; refine Kd.bM_ k43 (w0 := w) w.heap.size rfl (.tmp 24) (.tmp 26) 27 43 (.agg #[(.string ⟨#[]⟩), (.string ⟨#[]⟩), (.string ⟨#[]⟩)]) 48 rfl Tryd.underlying27 cs_ rfl (by decide) (by omega) u5 x5_1 (⟨a1_0, a1_1, a1_2⟩ : S43) [.string a1_0, .string a1_1, .string a1_2] (fun k_ => k_ ≠ gb101) (fun _ => False) rfl rfl ?aP (fun _ hk => hk.elim) ?aF ?aO ?aB ?aS ?aL ?_; (case aP => exact cf_ _ _ _ (⟨a1_0, a1_1, a1_2⟩ : S43)); (case aB => exact (bq)); (case aF => exact (fun k_ hk => Kd.cz_ (g := gb101) (o := .cells #[.string a1_0, .string a1_1, .string a1_2] 43 (0, 0)) (kz BK101.out) k_ hk)); (case aO => exact (rz HO_5.out)); (case aS => exact (ak_ (bq))); (case aL => have := LMc12.out; omega); intro v111 w18 ho hb hg hat; rw [← Ny110.out] at ho; replace BK101 := Aside0.mk (bH_ (g := gb101) (o := .cells #[.string a1_0, .string a1_1, .string a1_2] 43 (0, 0)) (kz BK101.out) hg (Kd.cv_ HO_5.out (fun _ hk => hk))); replace HB := Aside0.mk (hb); have HO112 := Aside0.mk (ho); clear HO_5; clear ho hb hg hat; have p113 : 0 ≤ (x7_1 : Int) := of_decide_eq_true (by assumption); have q113 : x7_1 < (l0.length : Int) := of_decide_eq_true (by assumption); obtain ⟨ad113, e113, hx113_0, hx113_1, hx113_2⟩ := br_ HR0.out x7_1 p113 q113; cases e113; replace hx113_0 := bu_ HB.out hx113_0; replace hx113_1 := bu_ HB.out hx113_1; replace hx113_2 := bu_ HB.out hx113_2; replace p113 := eq_true p113; replace q113 := eq_true q113; obtain ⟨hcz19_0, hcz19_1, hcz19_2⟩ := cz3_ BK101.out; obtain ⟨hfz19_0, hfz19_1, hfz19_2⟩ := fz3_ BK101.out; have p114 : 0 ≤ (x7_1 : Int) := of_decide_eq_true (by assumption); have q114 : x7_1 < (l0.length : Int) := of_decide_eq_true (by assumption); obtain ⟨ad114, e114, hx114_0, hx114_1, hx114_2⟩ := br_ HR0.out x7_1 p114 q114; obtain rfl : ad113 = ad114 := (by injection e114); replace hx114_0 := bu_ HB.out hx114_0; replace hx114_1 := bu_ HB.out hx114_1; replace hx114_2 := bu_ HB.out hx114_2; replace p114 := eq_true p114; replace q114 := eq_true q114))
     repeat (go_quiet (first | ((with_reducible refine aY_ (b := .append) (xs := #[.tmp 24, .tmp 26]) rfl ?_); at_builtin; refine Kd.bM_ k43 (w0 := w) w.heap.size rfl (.tmp 24) (.tmp 26) 27 43 (.agg #[(.string ⟨#[]⟩), (.string ⟨#[]⟩), (.string ⟨#[]⟩)]) 48 rfl Tryd.underlying27 cs_ rfl (by decide) (by omega) u5 x5_1 (⟨a1_0, a1_1, a1_2⟩ : S43) [.string a1_0, .string a1_1, .string a1_2] (fun k_ => k_ ≠ gb101) (fun _ => False) rfl rfl ?aP (fun _ hk => hk.elim) ?aF ?aO ?aB ?aS ?aL ?_; (case aP => exact cf_ _ _ _ (⟨a1_0, a1_1, a1_2⟩ : S43)); (case aB => exact (bq)); (case aF => exact (fun k_ hk => Kd.cz_ (g := gb101) (o := .cells #[.string a1_0, .string a1_1, .string a1_2] 43 (0, 0)) (kz BK101.out) k_ hk)); (case aO => exact (rz HO_5.out)); (case aS => exact (ak_ (bq))); (case aL => have := LMc12.out; omega); intro v111 w18 ho hb hg hat; rw [← Ny110.out] at ho; replace BK101 := Aside0.mk (bH_ (g := gb101) (o := .cells #[.string a1_0, .string a1_1, .string a1_2] 43 (0, 0)) (kz BK101.out) hg (Kd.cv_ HO_5.out (fun _ hk => hk))); replace HB := Aside0.mk (hb); have HO112 := Aside0.mk (ho); clear HO_5; clear ho hb hg hat; have p113 : 0 ≤ (x7_1 : Int) := of_decide_eq_true (by assumption); have q113 : x7_1 < (l0.length : Int) := of_decide_eq_true (by assumption); obtain ⟨ad113, e113, hx113_0, hx113_1, hx113_2⟩ := br_ HR0.out x7_1 p113 q113; cases e113; replace hx113_0 := bu_ HB.out hx113_0; replace hx113_1 := bu_ HB.out hx113_1; replace hx113_2 := bu_ HB.out hx113_2; replace p113 := eq_true p113; replace q113 := eq_true q113; obtain ⟨hcz19_0, hcz19_1, hcz19_2⟩ := cz3_ BK101.out; obtain ⟨hfz19_0, hfz19_1, hfz19_2⟩ := fz3_ BK101.out; have p114 : 0 ≤ (x7_1 : Int) := of_decide_eq_true (by assumption); have q114 : x7_1 < (l0.length : Int) := of_decide_eq_true (by assumption); obtain ⟨ad114, e114, hx114_0, hx114_1, hx114_2⟩ := br_ HR0.out x7_1 p114 q114; obtain rfl : ad113 = ad114 := (by injection e114); replace hx114_0 := bu_ HB.out hx114_0; replace hx114_1 := bu_ HB.out hx114_1; replace hx114_2 := bu_ HB.out hx114_2; replace p114 := eq_true p114; replace q114 := eq_true q114)); go_upto_if 45 with (first | ((with_reducible refine aY_ (b := .append) (xs := #[.tmp 24, .tmp 26]) rfl ?_); at_builtin; refine Kd.bM_ k43 (w0 := w) w.heap.size rfl (.tmp 24) (.tmp 26) 27 43 (.agg #[(.string ⟨#[]⟩), (.string ⟨#[]⟩), (.string ⟨#[]⟩)]) 48 rfl Tryd.underlying27 cs_ rfl (by decide) (by omega) u5 x5_1 (⟨a1_0, a1_1, a1_2⟩ : S43) [.string a1_0, .string a1_1, .string a1_2] (fun k_ => k_ ≠ gb101) (fun _ => False) rfl rfl ?aP (fun _ hk => hk.elim) ?aF ?aO ?aB ?aS ?aL ?_; (case aP => exact cf_ _ _ _ (⟨a1_0, a1_1, a1_2⟩ : S43)); (case aB => exact (bq)); (case aF => exact (fun k_ hk => Kd.cz_ (g := gb101) (o := .cells #[.string a1_0, .string a1_1, .string a1_2] 43 (0, 0)) (kz BK101.out) k_ hk)); (case aO => exact (rz HO_5.out)); (case aS => exact (ak_ (bq))); (case aL => have := LMc12.out; omega); intro v111 w18 ho hb hg hat; rw [← Ny110.out] at ho; replace BK101 := Aside0.mk (bH_ (g := gb101) (o := .cells #[.string a1_0, .string a1_1, .string a1_2] 43 (0, 0)) (kz BK101.out) hg (Kd.cv_ HO_5.out (fun _ hk => hk))); replace HB := Aside0.mk (hb); have HO112 := Aside0.mk (ho); clear HO_5; clear ho hb hg hat; have p113 : 0 ≤ (x7_1 : Int) := of_decide_eq_true (by assumption); have q113 : x7_1 < (l0.length : Int) := of_decide_eq_true (by assumption); obtain ⟨ad113, e113, hx113_0, hx113_1, hx113_2⟩ := br_ HR0.out x7_1 p113 q113; cases e113; replace hx113_0 := bu_ HB.out hx113_0; replace hx113_1 := bu_ HB.out hx113_1; replace hx113_2 := bu_ HB.out hx113_2; replace p113 := eq_true p113; replace q113 := eq_true q113; obtain ⟨hcz19_0, hcz19_1, hcz19_2⟩ := cz3_ BK101.out; obtain ⟨hfz19_0, hfz19_1, hfz19_2⟩ := fz3_ BK101.out; have p114 : 0 ≤ (x7_1 : Int) := of_decide_eq_true (by assumption); have q114 : x7_1 < (l0.length : Int) := of_decide_eq_true (by assumption); obtain ⟨ad114, e114, hx114_0, hx114_1, hx114_2⟩ := br_ HR0.out x7_1 p114 q114; obtain rfl : ad113 = ad114 := (by injection e114); replace hx114_0 := bu_ HB.out hx114_0; replace hx114_1 := bu_ HB.out hx114_1; replace hx114_2 := bu_ HB.out hx114_2; replace p114 := eq_true p114; replace q114 := eq_true q114)))
     (try simp only [Act.put, lsa_, ls0_, ls1_])
     have H := HC16.out
     clear HC16
     by_cases c20 : ((aa_ l0 x7_1).f1).toList = a1_1.toList
     rotate_left
     ·rw [if_neg c20] at H
      have c20b0 : (((aa_ l0 x7_1).f1).toList == a1_1.toList) = false := beq_eq_false_iff_ne.mpr c20
      have c20b1 : (((aa_ l0 x7_1).f1).toList != a1_1.toList) = true := bne_iff_ne.mpr c20
      (first | rw [c20b0] | (simp only [i64_w, i32_w]; rw [c20b0]) | (simp only [c20b1, Bool.not_true, Bool.not_false]) | (simp only [c20b0, Bool.not_true, Bool.not_false]) | skip)
      by_cases c21 : y110.length < 2932031007402
      rotate_left
      ·rw [if_neg c21] at H
       exact absurd H (by simp)
      rw [if_pos c21] at H
      have LMc21 := Aside0.mk c21
      clear c21
      obtain ⟨y116, hy116⟩ : ∃ y_ : List (S43), y_ = (y110 ++ [(⟨(aa_ l0 x7_1).f0, (aa_ l0 x7_1).f1, (aa_ l0 x7_1).f2⟩ : S43)]) := ⟨_, rfl⟩
      replace H : (aA_.l0 kj6 l0 y116 true (wrap64 (x7_1 + 1)) a1_0 a1_1 a1_2) = some r := by first | (rw [hy116]; with_reducible exact H) | (have H2_ := (Option.bind_some _ _).symm.trans H; rw [hy116]; with_reducible exact H2_) | (have H2_ := (Option.bind_some _ _).symm.trans H; with_reducible exact H2_) | with_reducible exact H | (rw [hy116]; exact H) | exact H
      have Ny116 := Aside0.mk hy116
      clear hy116
      have H' := Aside0.mk H
      clear H
      have p115 : 0 ≤ (x7_1 : Int) := of_decide_eq_true (by assumption)
      have q115 : x7_1 < (l0.length : Int) := of_decide_eq_true (by assumption)
      obtain ⟨ad115, e115, hx115_0, hx115_1, hx115_2⟩ := br_ HR0.out x7_1 p115 q115
      obtain rfl : ad113 = ad115 := (by injection e115)
      replace hx115_0 := bu_ HB.out hx115_0
      replace hx115_1 := bu_ HB.out hx115_1
      replace hx115_2 := bu_ HB.out hx115_2
      replace p115 := eq_true p115
      replace q115 := eq_true q115
      go_wp2_with (first | ((with_reducible refine aY_ (b := .append) (xs := #[.tmp 46, .tmp 51]) rfl ?_); at_builtin; refine Kd.bM_ k43 (w0 := w) w.heap.size rfl (.tmp 46) (.tmp 51) 27 43 (.agg #[(.string ⟨#[]⟩), (.string ⟨#[]⟩), (.string ⟨#[]⟩)]) 48 rfl Tryd.underlying27 cs_ rfl (by decide) (by omega) v111 y110 (⟨(aa_ l0 x7_1).f0, (aa_ l0 x7_1).f1, (aa_ l0 x7_1).f2⟩ : S43) [.string ((aa_ l0 x7_1).f0), .string ((aa_ l0 x7_1).f1), .string ((aa_ l0 x7_1).f2)] (fun k_ => k_ ≠ gb101) (fun _ => False) rfl rfl ?aP (fun _ hk => hk.elim) ?aF ?aO ?aB ?aS ?aL ?_; (case aP => exact cf_ _ _ _ (⟨(aa_ l0 x7_1).f0, (aa_ l0 x7_1).f1, (aa_ l0 x7_1).f2⟩ : S43)); (case aB => exact (bq)); (case aF => exact (fun k_ hk => Kd.cz_ (g := gb101) (o := .cells #[.string a1_0, .string a1_1, .string a1_2] 43 (0, 0)) (kz BK101.out) k_ hk)); (case aO => exact (rz HO112.out)); (case aS => exact (ak_ (bq))); (case aL => have := LMc21.out; omega); intro v117 w22 ho hb hg hat; rw [← Ny116.out] at ho; replace BK101 := Aside0.mk (bH_ (g := gb101) (o := .cells #[.string a1_0, .string a1_1, .string a1_2] 43 (0, 0)) (kz BK101.out) hg (Kd.cv_ HO112.out (fun _ hk => hk))); replace HB := Aside0.mk (hb); have HO118 := Aside0.mk (ho); clear HO112; clear ho hb hg hat))
      repeat (go_quiet (first | ((with_reducible refine aY_ (b := .append) (xs := #[.tmp 46, .tmp 51]) rfl ?_); at_builtin; refine Kd.bM_ k43 (w0 := w) w.heap.size rfl (.tmp 46) (.tmp 51) 27 43 (.agg #[(.string ⟨#[]⟩), (.string ⟨#[]⟩), (.string ⟨#[]⟩)]) 48 rfl Tryd.underlying27 cs_ rfl (by decide) (by omega) v111 y110 (⟨(aa_ l0 x7_1).f0, (aa_ l0 x7_1).f1, (aa_ l0 x7_1).f2⟩ : S43) [.string ((aa_ l0 x7_1).f0), .string ((aa_ l0 x7_1).f1), .string ((aa_ l0 x7_1).f2)] (fun k_ => k_ ≠ gb101) (fun _ => False) rfl rfl ?aP (fun _ hk => hk.elim) ?aF ?aO ?aB ?aS ?aL ?_; (case aP => exact cf_ _ _ _ (⟨(aa_ l0 x7_1).f0, (aa_ l0 x7_1).f1, (aa_ l0 x7_1).f2⟩ : S43)); (case aB => exact (bq)); (case aF => exact (fun k_ hk => Kd.cz_ (g := gb101) (o := .cells #[.string a1_0, .string a1_1, .string a1_2] 43 (0, 0)) (kz BK101.out) k_ hk)); (case aO => exact (rz HO112.out)); (case aS => exact (ak_ (bq))); (case aL => have := LMc21.out; omega); intro v117 w22 ho hb hg hat; rw [← Ny116.out] at ho; replace BK101 := Aside0.mk (bH_ (g := gb101) (o := .cells #[.string a1_0, .string a1_1, .string a1_2] 43 (0, 0)) (kz BK101.out) hg (Kd.cv_ HO112.out (fun _ hk => hk))); replace HB := Aside0.mk (hb); have HO118 := Aside0.mk (ho); clear HO112; clear ho hb hg hat)); try go_wp2_with (first | ((with_reducible refine aY_ (b := .append) (xs := #[.tmp 46, .tmp 51]) rfl ?_); at_builtin; refine Kd.bM_ k43 (w0 := w) w.heap.size rfl (.tmp 46) (.tmp 51) 27 43 (.agg #[(.string ⟨#[]⟩), (.string ⟨#[]⟩), (.string ⟨#[]⟩)]) 48 rfl Tryd.underlying27 cs_ rfl (by decide) (by omega) v111 y110 (⟨(aa_ l0 x7_1).f0, (aa_ l0 x7_1).f1, (aa_ l0 x7_1).f2⟩ : S43) [.string ((aa_ l0 x7_1).f0), .string ((aa_ l0 x7_1).f1), .string ((aa_ l0 x7_1).f2)] (fun k_ => k_ ≠ gb101) (fun _ => False) rfl rfl ?aP (fun _ hk => hk.elim) ?aF ?aO ?aB ?aS ?aL ?_; (case aP => exact cf_ _ _ _ (⟨(aa_ l0 x7_1).f0, (aa_ l0 x7_1).f1, (aa_ l0 x7_1).f2⟩ : S43)); (case aB => exact (bq)); (case aF => exact (fun k_ hk => Kd.cz_ (g := gb101) (o := .cells #[.string a1_0, .string a1_1, .string a1_2] 43 (0, 0)) (kz BK101.out) k_ hk)); (case aO => exact (rz HO112.out)); (case aS => exact (ak_ (bq))); (case aL => have := LMc21.out; omega); intro v117 w22 ho hb hg hat; rw [← Ny116.out] at ho; replace BK101 := Aside0.mk (bH_ (g := gb101) (o := .cells #[.string a1_0, .string a1_1, .string a1_2] 43 (0, 0)) (kz BK101.out) hg (Kd.cv_ HO112.out (fun _ hk => hk))); replace HB := Aside0.mk (hb); have HO118 := Aside0.mk (ho); clear HO112; clear ho hb hg hat)))
      go_roundg kj6
      case measure => have := HK1.out; have := HJ6.out; omega
      case rel => exact ⟨(y116), (true), (wrap64 (x7_1 + 1)), (by first | rfl | (simp; done) | (simp [*]; done)), (by first | rfl | (simp; done) | (simp [*]; done)), H', ⟨by have := HK1.out; have := HJ6.out; omega⟩, ⟨rz HO118.out⟩, ⟨by (with_reducible repeat (first | refine bj_ ?_ _ | refine aX_ ?_ | refine aU_ ?_ _)); exact BK101.out⟩, ⟨bq⟩⟩
     rw [if_pos c20] at H
     have c20b0 : (((aa_ l0 x7_1).f1).toList == a1_1.toList) = true := beq_iff_eq.mpr c20
     have c20b1 : (((aa_ l0 x7_1).f1).toList != a1_1.toList) = false := bne_eq_false_iff_eq.mpr c20
     clear c20
     (first | rw [c20b0] | (simp only [i64_w, i32_w]; rw [c20b0]) | (simp only [c20b1, Bool.not_true, Bool.not_false]) | (simp only [c20b0, Bool.not_true, Bool.not_false]) | skip)
     have H' := Aside0.mk H
     clear H
     go_wp2
     repeat (go_quiet (fail); try go_wp2)
     go_roundg kj6
     case measure => have := HK1.out; have := HJ6.out; omega
     case rel => exact ⟨(y110), (true), (wrap64 (x7_1 + 1)), (by first | rfl | (simp; done) | (simp [*]; done)), (by first | rfl | (simp; done) | (simp [*]; done)), H', ⟨by have := HK1.out; have := HJ6.out; omega⟩, ⟨rz HO112.out⟩, ⟨by (with_reducible repeat (first | refine bj_ ?_ _ | refine aX_ ?_ | refine aU_ ?_ _)); exact BK101.out⟩, ⟨bq⟩⟩
def cH_.f (a0 : Int) : Option (Bool) := if a0 ≥ 48 then (some (decide (a0 ≤ 57))) else (some false)
set_option maxHeartbeats 8000000 in
set_option maxRecDepth 100000 in
theorem cH_.calls (a0 : Int) (r : Bool) (w : World) (h : cH_.f a0 = some r) :
  Calls Tryd.prog 77 #[.int .u8 a0] w fun e w' => e = .returned (.bool r) ∧ an_ w w' := by
 have H : (if a0 ≥ 48 then (some (decide (a0 ≤ 57))) else (some false)) = some r := h
 clear h
 by_cases c2 : a0 ≥ 48
 rotate_left
 ·rw [if_neg c2] at H
  have c2b0 : decide (48 ≤ a0) = false := decide_eq_false c2
  clear c2
  obtain rfl := Option.some.inj H
  go_enter Tryd.func77, Tryd.ntmps77
  go_wp2
  go_ret
  exact ⟨by first | rfl | (simp; done) | (simp [*]; done), by repeat (first | exact an_.refl _ | apply an_.step)⟩
 rw [if_pos c2] at H
 have c2b0 : decide (48 ≤ a0) = true := decide_eq_true c2
 clear c2
 obtain rfl := Option.some.inj H
 go_enter Tryd.func77, Tryd.ntmps77
 go_wp2
 go_ret
 exact ⟨by first | rfl | (simp; done) | (simp [*]; done), by repeat (first | exact an_.refl _ | apply an_.step)⟩
def ca_.f (a0 : Int) : Option (Bool) := if a0 ≥ 97 then (some (decide (a0 ≤ 122))) else (some false)
set_option maxHeartbeats 8000000 in
set_option maxRecDepth 100000 in
theorem ca_.calls (a0 : Int) (r : Bool) (w : World) (h : ca_.f a0 = some r) :
  Calls Tryd.prog 89 #[.int .u8 a0] w fun e w' => e = .returned (.bool r) ∧ an_ w w' := by
 have H : (if a0 ≥ 97 then (some (decide (a0 ≤ 122))) else (some false)) = some r := h
 clear h
 by_cases c2 : a0 ≥ 97
 rotate_left
 ·rw [if_neg c2] at H
  have c2b0 : decide (97 ≤ a0) = false := decide_eq_false c2
  clear c2
  obtain rfl := Option.some.inj H
  go_enter Tryd.func89, Tryd.ntmps89
  go_wp2
  go_ret
  exact ⟨by first | rfl | (simp; done) | (simp [*]; done), by repeat (first | exact an_.refl _ | apply an_.step)⟩
 rw [if_pos c2] at H
 have c2b0 : decide (97 ≤ a0) = true := decide_eq_true c2
 clear c2
 obtain rfl := Option.some.inj H
 go_enter Tryd.func89, Tryd.ntmps89
 go_wp2
 go_ret
 exact ⟨by first | rfl | (simp; done) | (simp [*]; done), by repeat (first | exact an_.refl _ | apply an_.step)⟩
mutual
def aI_.j0 : Nat → ByteArray → Bool → Option (Bool)
 | 0, _, _ => none
 | k + 1, x0, x16 => if x16 = true then (some false) else (aI_.l0 k x0 0)
def aI_.l0 : Nat → ByteArray → Int → Option (Bool)
 | 0, _, _ => none
 | k + 1, x0, x3 => if x3 < (x0.size : Int) then (if 0 ≤ x3 then ((ca_.f (bt x0 x3)).bind fun t102 => (if t102 = true then (aI_.l0 k x0 (wrap64 (x3 + 1))) else ((cH_.f (bt x0 x3)).bind fun t103 => (if t103 = true then (aI_.l0 k x0 (wrap64 (x3 + 1))) else (some false))))) else (none)) else (some true)
end
def aI_.f (k : Nat) (a0 : ByteArray) : Option (Bool) := if a0.toList = ([] : List UInt8) then (aI_.j0 k a0 true) else (if (a0.size : Int) > 10 then (aI_.j0 k a0 true) else (if 0 < (a0.size : Int) then ((ca_.f (bt a0 0)).bind fun t101 => (aI_.j0 k a0 (!t101))) else (none)))
set_option maxHeartbeats 8000000 in
set_option maxRecDepth 100000 in
theorem aI_.calls (k : Nat) (a0 : ByteArray) (r : Bool) (w : World) (h : aI_.f k a0 = some r) :
  Calls Tryd.prog 70 #[.string a0] w fun e w' => e = .returned (.bool r) ∧ an_ w w' := by
 have H : (if a0.toList = ([] : List UInt8) then (aI_.j0 k a0 true) else (if (a0.size : Int) > 10 then (aI_.j0 k a0 true) else (if 0 < (a0.size : Int) then ((ca_.f (bt a0 0)).bind fun t101 => (aI_.j0 k a0 (!t101))) else (none)))) = some r := h
 clear h
 have HC2 := Aside0.mk H
 clear H
 go_enter Tryd.func70, Tryd.ntmps70
 go_upto_region 1 with (fail)
 go_cut [16] (fun v16 wc => ∃ (kq : Nat) (x16_1 : Bool), v16 = .bool x16_1 ∧ Aside0 (aI_.j0 kq a0 x16_1 = some r) ∧ Aside0 (kq ≤ k) ∧ an_ w wc)
 case first =>
  have H := HC2.out
  clear HC2
  by_cases c3 : a0.toList = ([] : List UInt8)
  rotate_left
  ·rw [if_neg c3] at H
   have c3b0 : (a0.toList == ([] : List UInt8)) = false := beq_eq_false_iff_ne.mpr c3
   have c3b1 : (a0.toList != ([] : List UInt8)) = true := bne_iff_ne.mpr c3
   (try (have c3b8 := c3b0; simp only [List.beq_nil_eq] at c3b8))
   (first | rw [c3b0] | (simp only [i64_w, i32_w]; rw [c3b0]) | (simp only [c3b1, Bool.not_true, Bool.not_false]) | (simp only [c3b0, Bool.not_true, Bool.not_false]) | rw [c3b8] | (simp only [c3b8, Bool.not_true, Bool.not_false]) | skip)
   by_cases c4 : (a0.size : Int) > 10
   rotate_left
   ·rw [if_neg c4] at H
    have c4b0 : decide (10 < (a0.size : Int)) = false := decide_eq_false c4
    have c4b1 : decide (10 < a0.size) = false := decide_eq_false (by omega)
    clear c4
    by_cases c5 : 0 < (a0.size : Int)
    rotate_left
    ·rw [if_neg c5] at H
     exact absurd H (by simp)
    rw [if_pos c5] at H
    have c5b0 : decide (0 < (a0.size : Int)) = true := decide_eq_true c5
    have c5b1 : decide (0 < a0.size) = true := decide_eq_true (by omega)
    clear c5
    replace H := Option.bind_eq_some_iff.mp H
    obtain ⟨t101, A70, H⟩ := H
    (try dsimp only at H)
    have A7 := Aside0.mk A70
    clear A70
    have H' := Aside0.mk H
    clear H
    have p6 : 0 ≤ (0 : Int) := (by omega)
    have q6 : 0 < a0.size := (by have : (0 : Int) < (a0.size : Int) := of_decide_eq_true (by assumption); omega)
    have hx6 : ∀ h : 0 < a0.size, ((a0[0]'h).toNat : Int) = bt a0 0 := bt_at a0 0
    clear p6
    have qi6 : (0 < (a0.size : Int)) = True := eq_true (of_decide_eq_true (by assumption))
    replace q6 := eq_true q6
    go_wp2_with (first | (go_at_call 89; (with_reducible refine (ca_.calls (bt a0 0) t101 _ A7.out).mono ?_); rintro e w' ⟨rfl, ⟨nd, rfl⟩⟩))
    go_meet
    case rel => exact ⟨_, (!t101), (by first | rfl | (simp; done) | (simp [*]; done)), H', ⟨by first | omega | exact Nat.le_refl _⟩, by repeat (first | exact an_.refl _ | apply an_.step)⟩
   rw [if_pos c4] at H
   have c4b0 : decide (10 < (a0.size : Int)) = true := decide_eq_true c4
   have c4b1 : decide (10 < a0.size) = true := decide_eq_true (by omega)
   clear c4
   have H' := Aside0.mk H
   clear H
   go_wp2
   go_meet
   case rel => exact ⟨_, (true), (by first | rfl | (simp; done) | (simp [*]; done)), H', ⟨by first | omega | exact Nat.le_refl _⟩, by repeat (first | exact an_.refl _ | apply an_.step)⟩
  rw [if_pos c3] at H
  have c3b0 : (a0.toList == ([] : List UInt8)) = true := beq_iff_eq.mpr c3
  have c3b1 : (a0.toList != ([] : List UInt8)) = false := bne_eq_false_iff_eq.mpr c3
  (try (have c3b8 := c3b0; simp only [List.beq_nil_eq] at c3b8))
  clear c3
  (first | rw [c3b0] | (simp only [i64_w, i32_w]; rw [c3b0]) | (simp only [c3b1, Bool.not_true, Bool.not_false]) | (simp only [c3b0, Bool.not_true, Bool.not_false]) | rw [c3b8] | (simp only [c3b8, Bool.not_true, Bool.not_false]) | skip)
  have H' := Aside0.mk H
  clear H
  go_wp2
  go_meet
  case rel => exact ⟨_, (true), (by first | rfl | (simp; done) | (simp [*]; done)), H', ⟨by first | omega | exact Nat.le_refl _⟩, by repeat (first | exact an_.refl _ | apply an_.step)⟩
 case rest =>
  clear HC2
  obtain ⟨kq, x16_1, rfl, HA, HJ1, ⟨mc1, rfl⟩⟩ := hcut
  cases kq with
  | zero => exact absurd HA.out (by simp [aI_.j0])
  | succ kj1 =>
   have H := HA.out
   clear HA
   simp only [aI_.j0] at H
   by_cases c8 : x16_1 = true
   rotate_left
   ·replace c8 := Bool.eq_false_iff.mpr c8
    subst c8
    have H1 : (aI_.l0 kj1 a0 0) = some r := by rw [if_neg (show ¬ (false = true) by decide)] at H; exact H
    clear H
    have H := H1
    clear H1
    have H' := Aside0.mk H
    clear H
    go_wp2
    (try simp only [Act.put, lsa_, ls0_, ls1_])
    go_loopg [3] kj1 (fun kq v3 w' => ∃ (x3_2 : Int), v3 = .int .i64 x3_2 ∧ Aside0 (aI_.l0 kq a0 x3_2 = some r) ∧ Aside0 (kq ≤ kj1) ∧ an_ w w')
    case atStart => exact ⟨(0), (by first | rfl | (simp; done) | (simp [*]; done)), H', ⟨Nat.le_refl _⟩, by repeat (first | exact an_.refl _ | apply an_.step)⟩
    case round =>
     clear H'
     obtain ⟨x3_2, rfl, HA, HK2, ⟨m2, rfl⟩⟩ := hrel
     cases gk with
     | zero => exact absurd HA.out (by simp [aI_.l0])
     | succ k2 =>
      have H := HA.out
      clear HA
      simp only [aI_.l0] at H
      by_cases c9 : x3_2 < (a0.size : Int)
      rotate_left
      ·rw [if_neg c9] at H
       have c9b0 : decide (x3_2 < (a0.size : Int)) = false := decide_eq_false c9
       clear c9
       obtain rfl := Option.some.inj H
       go_wp2
       go_ret
       exact ⟨by first | rfl | (simp; done) | (simp [*]; done), by repeat (first | exact an_.refl _ | apply an_.step)⟩
      rw [if_pos c9] at H
      have c9b0 : decide (x3_2 < (a0.size : Int)) = true := decide_eq_true c9
      clear c9
      by_cases c10 : 0 ≤ x3_2
      rotate_left
      ·rw [if_neg c10] at H
       exact absurd H (by simp)
      rw [if_pos c10] at H
      have c10b0 : decide (0 ≤ x3_2) = true := decide_eq_true c10
      clear c10
      replace H := Option.bind_eq_some_iff.mp H
      obtain ⟨t102, A120, H⟩ := H
      (try dsimp only at H)
      have A12 := Aside0.mk A120
      clear A120
      by_cases c13 : t102 = true
      rotate_left
      ·replace c13 := Bool.eq_false_iff.mpr c13
       subst c13
       have H1 : ((cH_.f (bt a0 x3_2)).bind fun t103 => (if t103 = true then (aI_.l0 k2 a0 (wrap64 (x3_2 + 1))) else (some false))) = some r := by rw [if_neg (show ¬ (false = true) by decide)] at H; exact H
       clear H
       have H := H1
       clear H1
       replace H := Option.bind_eq_some_iff.mp H
       obtain ⟨t103, A150, H⟩ := H
       (try dsimp only at H)
       have A15 := Aside0.mk A150
       clear A150
       have HC16 := Aside0.mk H
       clear H
       have p11 : 0 ≤ (x3_2 : Int) := of_decide_eq_true (by assumption)
       have q11 : x3_2 < (a0.size : Int) := of_decide_eq_true (by assumption)
       have hx11 := bt_at a0 x3_2
       replace p11 := eq_true p11
       replace q11 := eq_true q11
       go_upto_if 34 with (first | ((with_reducible refine al_ (f := 89) rfl ?_); refine bf_ (some 26) rfl rfl Tryd.func89 (by kernel_rfl) rfl #[.int .u8 (bt a0 x3_2)] rfl (by first | rfl | (simp only [lma_, lmc_, lmn_]; first | done | rfl)) ?_; (with_reducible refine (ca_.calls (bt a0 x3_2) false _ A12.out).mono ?_); rintro e w' ⟨rfl, ⟨nd, rfl⟩⟩; refine ⟨_, rfl, ?_⟩; skip; have p14 : 0 ≤ (x3_2 : Int) := of_decide_eq_true (by assumption); have q14 : x3_2 < (a0.size : Int) := of_decide_eq_true (by assumption); have hx14 := bt_at a0 x3_2; replace p14 := eq_true p14; replace q14 := eq_true q14) | (go_at_call 77; (with_reducible refine (cH_.calls (bt a0 x3_2) t103 _ A15.out).mono ?_); rintro e w' ⟨rfl, ⟨nd, rfl⟩⟩; skip))
       (try simp only [Act.put, lsa_, ls0_, ls1_])
       have H := HC16.out
       clear HC16
       by_cases c17 : t103 = true
       rotate_left
       ·replace c17 := Bool.eq_false_iff.mpr c17
        subst c17
        have H1 : (some false) = some r := by rw [if_neg (show ¬ (false = true) by decide)] at H; exact H
        clear H
        have H := H1
        clear H1
        obtain rfl := Option.some.inj H
        go_wp2
        go_ret
        exact ⟨by first | rfl | (simp; done) | (simp [*]; done), by repeat (first | exact an_.refl _ | apply an_.step)⟩
       subst c17
       have H1 : (aI_.l0 k2 a0 (wrap64 (x3_2 + 1))) = some r := by rw [if_pos rfl] at H; exact H
       clear H
       have H := H1
       clear H1
       have H' := Aside0.mk H
       clear H
       go_wp2
       go_roundg k2
       case measure => have := HJ1.out; have := HK2.out; omega
       case rel => exact ⟨(wrap64 (x3_2 + 1)), (by first | rfl | (simp; done) | (simp [*]; done)), H', ⟨by have := HJ1.out; have := HK2.out; omega⟩, by repeat (first | exact an_.refl _ | apply an_.step)⟩
      subst c13
      have H1 : (aI_.l0 k2 a0 (wrap64 (x3_2 + 1))) = some r := by rw [if_pos rfl] at H; exact H
      clear H
      have H := H1
      clear H1
      have H' := Aside0.mk H
      clear H
      have p11 : 0 ≤ (x3_2 : Int) := of_decide_eq_true (by assumption)
      have q11 : x3_2 < (a0.size : Int) := of_decide_eq_true (by assumption)
      have hx11 := bt_at a0 x3_2
      replace p11 := eq_true p11
      replace q11 := eq_true q11
      go_wp2_with (first | ((with_reducible refine al_ (f := 89) rfl ?_); refine bf_ (some 26) rfl rfl Tryd.func89 (by kernel_rfl) rfl #[.int .u8 (bt a0 x3_2)] rfl (by first | rfl | (simp only [lma_, lmc_, lmn_]; first | done | rfl)) ?_; (with_reducible refine (ca_.calls (bt a0 x3_2) true _ A12.out).mono ?_); rintro e w' ⟨rfl, ⟨nd, rfl⟩⟩; refine ⟨_, rfl, ?_⟩))
      go_roundg k2
      case measure => have := HJ1.out; have := HK2.out; omega
      case rel => exact ⟨(wrap64 (x3_2 + 1)), (by first | rfl | (simp; done) | (simp [*]; done)), H', ⟨by have := HJ1.out; have := HK2.out; omega⟩, by repeat (first | exact an_.refl _ | apply an_.step)⟩
   subst c8
   have H1 : (some false) = some r := by rw [if_pos rfl] at H; exact H
   clear H
   have H := H1
   clear H1
   obtain rfl := Option.some.inj H
   go_wp2
   go_ret
   exact ⟨by first | rfl | (simp; done) | (simp [*]; done), by repeat (first | exact an_.refl _ | apply an_.step)⟩
def ay_.l0 : Nat → List (S43) → Int → Option (Bool)
 | 0, _, _ => none
 | k + 1, x0, x3 => if 0 < (x0.length : Int) then (if x3 < (((aa_ x0 0).f2).size : Int) then (if 0 ≤ x3 then (if (bt ((aa_ x0 0).f2) x3) = 10 then (some false) else (ay_.l0 k x0 (wrap64 (x3 + 1)))) else (none)) else ((aI_.f k ((aa_ x0 0).f0)).bind fun t104 => (if t104 = true then ((aI_.f k ((aa_ x0 0).f1)).bind fun t106 => (if t106 = true then (some (decide ((((aa_ x0 0).f2).size : Int) ≤ 400))) else (some false))) else (some false)))) else (none)
def ay_.f (k : Nat) (l0 : List (S43)) : Option (Bool) := ay_.l0 k l0 0
set_option maxHeartbeats 8000000 in
set_option maxRecDepth 100000 in
theorem ay_.calls (k : Nat) (A0 : Option Addr) (l0 : List (S43)) (r : Bool) (w : World) (hr0 : Kd.C k43 w A0 l0.length l0) (h : ay_.f k l0 = some r) :
  Calls Tryd.prog 49 #[.pointer A0] w fun e w' => e = .returned (.bool r) ∧ an_ w w' := by
 have HR0 := Aside0.mk hr0
 clear hr0
 have H : (ay_.l0 k l0 0) = some r := h
 clear h
 have H' := Aside0.mk H
 clear H
 go_enter Tryd.func49, Tryd.ntmps49
 go_wp2
 (try simp only [Act.put, lsa_, ls0_, ls1_])
 go_loopg [3] k (fun kq v3 w' => ∃ (x3_1 : Int), v3 = .int .i64 x3_1 ∧ Aside0 (ay_.l0 kq l0 x3_1 = some r) ∧ Aside0 (kq ≤ k) ∧ an_ w w')
 case atStart => exact ⟨(0), (by first | rfl | (simp; done) | (simp [*]; done)), H', ⟨Nat.le_refl _⟩, by repeat (first | exact an_.refl _ | apply an_.step)⟩
 case round =>
  clear H'
  obtain ⟨x3_1, rfl, HA, HK1, ⟨m1, rfl⟩⟩ := hrel
  cases gk with
  | zero => exact absurd HA.out (by simp [ay_.l0])
  | succ k1 =>
   have H := HA.out
   clear HA
   simp only [ay_.l0] at H
   by_cases c2 : 0 < (l0.length : Int)
   rotate_left
   ·rw [if_neg c2] at H
    exact absurd H (by simp)
   rw [if_pos c2] at H
   have c2b0 : decide (0 < (l0.length : Int)) = true := decide_eq_true c2
   have c2b1 : decide (0 < l0.length) = true := decide_eq_true (by omega)
   clear c2
   by_cases c3 : x3_1 < (((aa_ l0 0).f2).size : Int)
   rotate_left
   ·rw [if_neg c3] at H
    have c3b0 : decide (x3_1 < (((aa_ l0 0).f2).size : Int)) = false := decide_eq_false c3
    clear c3
    replace H := Option.bind_eq_some_iff.mp H
    obtain ⟨t104, A70, H⟩ := H
    (try dsimp only at H)
    have A7 := Aside0.mk A70
    clear A70
    by_cases c8 : t104 = true
    rotate_left
    ·replace c8 := Bool.eq_false_iff.mpr c8
     subst c8
     have H1 : (some false) = some r := by rw [if_neg (show ¬ (false = true) by decide)] at H; exact H
     clear H
     have H := H1
     clear H1
     obtain rfl := Option.some.inj H
     have p101 : 0 ≤ (0 : Int) := (by omega)
     have q101 : 0 < (l0.length : Int) := of_decide_eq_true (by assumption)
     obtain ⟨ad101, e101, hx101_0, hx101_1, hx101_2⟩ := br_ HR0.out 0 p101 q101
     cases e101
     have qi101 : (0 < l0.length) = True := eq_true (by omega)
     (try simp only [Int.toNat_zero, Nat.zero_mul, Addr.add_zero'] at hx101_0 hx101_1 hx101_2)
     replace p101 := eq_true p101
     replace q101 := eq_true q101
     have p103 : 0 ≤ (0 : Int) := (by omega)
     have q103 : 0 < (l0.length : Int) := of_decide_eq_true (by assumption)
     obtain ⟨ad103, e103, hx103_0, hx103_1, hx103_2⟩ := br_ HR0.out 0 p103 q103
     obtain rfl : ad101 = ad103 := (by injection e103)
     have qi103 : (0 < l0.length) = True := eq_true (by omega)
     (try simp only [Int.toNat_zero, Nat.zero_mul, Addr.add_zero'] at hx103_0 hx103_1 hx103_2)
     replace p103 := eq_true p103
     replace q103 := eq_true q103
     go_wp2_with (first | ((with_reducible refine al_ (f := 70) rfl ?_); refine bf_ (some 24) rfl rfl Tryd.func70 (by kernel_rfl) rfl #[.string ((aa_ l0 0).f0)] rfl (by first | rfl | (simp only [lma_, lmc_, lmn_]; first | done | rfl)) ?_; (with_reducible refine (aI_.calls k1 ((aa_ l0 0).f0) false _ A7.out).mono ?_); rintro e w' ⟨rfl, ⟨nd, rfl⟩⟩; refine ⟨_, rfl, ?_⟩))
     go_ret
     exact ⟨by first | rfl | (simp; done) | (simp [*]; done), by repeat (first | exact an_.refl _ | apply an_.step)⟩
    subst c8
    have H1 : ((aI_.f k1 ((aa_ l0 0).f1)).bind fun t106 => (if t106 = true then (some (decide ((((aa_ l0 0).f2).size : Int) ≤ 400))) else (some false))) = some r := by rw [if_pos rfl] at H; exact H
    clear H
    have H := H1
    clear H1
    replace H := Option.bind_eq_some_iff.mp H
    obtain ⟨t106, A90, H⟩ := H
    (try dsimp only at H)
    have A9 := Aside0.mk A90
    clear A90
    by_cases c10 : t106 = true
    rotate_left
    ·replace c10 := Bool.eq_false_iff.mpr c10
     subst c10
     have H1 : (some false) = some r := by rw [if_neg (show ¬ (false = true) by decide)] at H; exact H
     clear H
     have H := H1
     clear H1
     obtain rfl := Option.some.inj H
     have p101 : 0 ≤ (0 : Int) := (by omega)
     have q101 : 0 < (l0.length : Int) := of_decide_eq_true (by assumption)
     obtain ⟨ad101, e101, hx101_0, hx101_1, hx101_2⟩ := br_ HR0.out 0 p101 q101
     cases e101
     have qi101 : (0 < l0.length) = True := eq_true (by omega)
     (try simp only [Int.toNat_zero, Nat.zero_mul, Addr.add_zero'] at hx101_0 hx101_1 hx101_2)
     replace p101 := eq_true p101
     replace q101 := eq_true q101
     have p103 : 0 ≤ (0 : Int) := (by omega)
     have q103 : 0 < (l0.length : Int) := of_decide_eq_true (by assumption)
     obtain ⟨ad103, e103, hx103_0, hx103_1, hx103_2⟩ := br_ HR0.out 0 p103 q103
     obtain rfl : ad101 = ad103 := (by injection e103)
     have qi103 : (0 < l0.length) = True := eq_true (by omega)
     (try simp only [Int.toNat_zero, Nat.zero_mul, Addr.add_zero'] at hx103_0 hx103_1 hx103_2)
     replace p103 := eq_true p103
     replace q103 := eq_true q103
     go_wp2_with (first | ((with_reducible refine al_ (f := 70) rfl ?_); refine bf_ (some 24) rfl rfl Tryd.func70 (by kernel_rfl) rfl #[.string ((aa_ l0 0).f0)] rfl (by first | rfl | (simp only [lma_, lmc_, lmn_]; first | done | rfl)) ?_; (with_reducible refine (aI_.calls k1 ((aa_ l0 0).f0) true _ A7.out).mono ?_); rintro e w' ⟨rfl, ⟨nd, rfl⟩⟩; refine ⟨_, rfl, ?_⟩; have p105 : 0 ≤ (0 : Int) := (by omega); have q105 : 0 < (l0.length : Int) := of_decide_eq_true (by assumption); obtain ⟨ad105, e105, hx105_0, hx105_1, hx105_2⟩ := br_ HR0.out 0 p105 q105; obtain rfl : ad101 = ad105 := (by injection e105); have qi105 : (0 < l0.length) = True := eq_true (by omega); (try simp only [Int.toNat_zero, Nat.zero_mul, Addr.add_zero'] at hx105_0 hx105_1 hx105_2); replace p105 := eq_true p105; replace q105 := eq_true q105) | (go_at_call 70; (with_reducible refine (aI_.calls k1 ((aa_ l0 0).f1) false _ A9.out).mono ?_); rintro e w' ⟨rfl, ⟨nd, rfl⟩⟩))
     go_ret
     exact ⟨by first | rfl | (simp; done) | (simp [*]; done), by repeat (first | exact an_.refl _ | apply an_.step)⟩
    subst c10
    have H1 : (some (decide ((((aa_ l0 0).f2).size : Int) ≤ 400))) = some r := by rw [if_pos rfl] at H; exact H
    clear H
    have H := H1
    clear H1
    obtain rfl := Option.some.inj H
    have p101 : 0 ≤ (0 : Int) := (by omega)
    have q101 : 0 < (l0.length : Int) := of_decide_eq_true (by assumption)
    obtain ⟨ad101, e101, hx101_0, hx101_1, hx101_2⟩ := br_ HR0.out 0 p101 q101
    cases e101
    have qi101 : (0 < l0.length) = True := eq_true (by omega)
    (try simp only [Int.toNat_zero, Nat.zero_mul, Addr.add_zero'] at hx101_0 hx101_1 hx101_2)
    replace p101 := eq_true p101
    replace q101 := eq_true q101
    have p103 : 0 ≤ (0 : Int) := (by omega)
    have q103 : 0 < (l0.length : Int) := of_decide_eq_true (by assumption)
    obtain ⟨ad103, e103, hx103_0, hx103_1, hx103_2⟩ := br_ HR0.out 0 p103 q103
    obtain rfl : ad101 = ad103 := (by injection e103)
    have qi103 : (0 < l0.length) = True := eq_true (by omega)
    (try simp only [Int.toNat_zero, Nat.zero_mul, Addr.add_zero'] at hx103_0 hx103_1 hx103_2)
    replace p103 := eq_true p103
    replace q103 := eq_true q103
    go_wp2_with (first | ((with_reducible refine al_ (f := 70) rfl ?_); refine bf_ (some 24) rfl rfl Tryd.func70 (by kernel_rfl) rfl #[.string ((aa_ l0 0).f0)] rfl (by first | rfl | (simp only [lma_, lmc_, lmn_]; first | done | rfl)) ?_; (with_reducible refine (aI_.calls k1 ((aa_ l0 0).f0) true _ A7.out).mono ?_); rintro e w' ⟨rfl, ⟨nd, rfl⟩⟩; refine ⟨_, rfl, ?_⟩; have p105 : 0 ≤ (0 : Int) := (by omega); have q105 : 0 < (l0.length : Int) := of_decide_eq_true (by assumption); obtain ⟨ad105, e105, hx105_0, hx105_1, hx105_2⟩ := br_ HR0.out 0 p105 q105; obtain rfl : ad101 = ad105 := (by injection e105); have qi105 : (0 < l0.length) = True := eq_true (by omega); (try simp only [Int.toNat_zero, Nat.zero_mul, Addr.add_zero'] at hx105_0 hx105_1 hx105_2); replace p105 := eq_true p105; replace q105 := eq_true q105) | (go_at_call 70; (with_reducible refine (aI_.calls k1 ((aa_ l0 0).f1) true _ A9.out).mono ?_); rintro e w' ⟨rfl, ⟨nd, rfl⟩⟩; have p107 : 0 ≤ (0 : Int) := (by omega); have q107 : 0 < (l0.length : Int) := of_decide_eq_true (by assumption); obtain ⟨ad107, e107, hx107_0, hx107_1, hx107_2⟩ := br_ HR0.out 0 p107 q107; obtain rfl : ad101 = ad107 := (by injection e107); have qi107 : (0 < l0.length) = True := eq_true (by omega); (try simp only [Int.toNat_zero, Nat.zero_mul, Addr.add_zero'] at hx107_0 hx107_1 hx107_2); replace p107 := eq_true p107; replace q107 := eq_true q107))
    go_ret
    exact ⟨by first | rfl | (simp; done) | (simp [*]; done), by repeat (first | exact an_.refl _ | apply an_.step)⟩
   rw [if_pos c3] at H
   have c3b0 : decide (x3_1 < (((aa_ l0 0).f2).size : Int)) = true := decide_eq_true c3
   clear c3
   by_cases c4 : 0 ≤ x3_1
   rotate_left
   ·rw [if_neg c4] at H
    exact absurd H (by simp)
   rw [if_pos c4] at H
   have c4b0 : decide (0 ≤ x3_1) = true := decide_eq_true c4
   clear c4
   by_cases c6 : (bt ((aa_ l0 0).f2) x3_1) = 10
   rotate_left
   ·rw [if_neg c6] at H
    have c6b0 : ((bt ((aa_ l0 0).f2) x3_1) == 10) = false := beq_eq_false_iff_ne.mpr c6
    have c6b1 : ((bt ((aa_ l0 0).f2) x3_1) != 10) = true := bne_iff_ne.mpr c6
    have H' := Aside0.mk H
    clear H
    have p101 : 0 ≤ (0 : Int) := (by omega)
    have q101 : 0 < (l0.length : Int) := of_decide_eq_true (by assumption)
    obtain ⟨ad101, e101, hx101_0, hx101_1, hx101_2⟩ := br_ HR0.out 0 p101 q101
    cases e101
    have qi101 : (0 < l0.length) = True := eq_true (by omega)
    (try simp only [Int.toNat_zero, Nat.zero_mul, Addr.add_zero'] at hx101_0 hx101_1 hx101_2)
    replace p101 := eq_true p101
    replace q101 := eq_true q101
    have p102 : 0 ≤ (0 : Int) := (by omega)
    have q102 : 0 < (l0.length : Int) := of_decide_eq_true (by assumption)
    obtain ⟨ad102, e102, hx102_0, hx102_1, hx102_2⟩ := br_ HR0.out 0 p102 q102
    obtain rfl : ad101 = ad102 := (by injection e102)
    have qi102 : (0 < l0.length) = True := eq_true (by omega)
    (try simp only [Int.toNat_zero, Nat.zero_mul, Addr.add_zero'] at hx102_0 hx102_1 hx102_2)
    replace p102 := eq_true p102
    replace q102 := eq_true q102
    have p5 : 0 ≤ (x3_1 : Int) := of_decide_eq_true (by assumption)
    have q5 : x3_1 < (((aa_ l0 0).f2).size : Int) := of_decide_eq_true (by assumption)
    have hx5 := bt_at ((aa_ l0 0).f2) x3_1
    replace p5 := eq_true p5
    replace q5 := eq_true q5
    go_wp2
    go_roundg k1
    case measure => have := HK1.out; omega
    case rel => exact ⟨(wrap64 (x3_1 + 1)), (by first | rfl | (simp; done) | (simp [*]; done)), H', ⟨by have := HK1.out; omega⟩, by repeat (first | exact an_.refl _ | apply an_.step)⟩
   rw [if_pos c6] at H
   have c6b0 : ((bt ((aa_ l0 0).f2) x3_1) == 10) = true := beq_iff_eq.mpr c6
   have c6b1 : ((bt ((aa_ l0 0).f2) x3_1) != 10) = false := bne_eq_false_iff_eq.mpr c6
   clear c6
   obtain rfl := Option.some.inj H
   have p101 : 0 ≤ (0 : Int) := (by omega)
   have q101 : 0 < (l0.length : Int) := of_decide_eq_true (by assumption)
   obtain ⟨ad101, e101, hx101_0, hx101_1, hx101_2⟩ := br_ HR0.out 0 p101 q101
   cases e101
   have qi101 : (0 < l0.length) = True := eq_true (by omega)
   (try simp only [Int.toNat_zero, Nat.zero_mul, Addr.add_zero'] at hx101_0 hx101_1 hx101_2)
   replace p101 := eq_true p101
   replace q101 := eq_true q101
   have p102 : 0 ≤ (0 : Int) := (by omega)
   have q102 : 0 < (l0.length : Int) := of_decide_eq_true (by assumption)
   obtain ⟨ad102, e102, hx102_0, hx102_1, hx102_2⟩ := br_ HR0.out 0 p102 q102
   obtain rfl : ad101 = ad102 := (by injection e102)
   have qi102 : (0 < l0.length) = True := eq_true (by omega)
   (try simp only [Int.toNat_zero, Nat.zero_mul, Addr.add_zero'] at hx102_0 hx102_1 hx102_2)
   replace p102 := eq_true p102
   replace q102 := eq_true q102
   have p5 : 0 ≤ (x3_1 : Int) := of_decide_eq_true (by assumption)
   have q5 : x3_1 < (((aa_ l0 0).f2).size : Int) := of_decide_eq_true (by assumption)
   have hx5 := bt_at ((aa_ l0 0).f2) x3_1
   replace p5 := eq_true p5
   replace q5 := eq_true q5
   go_wp2
   go_ret
   exact ⟨by first | rfl | (simp; done) | (simp [*]; done), by repeat (first | exact an_.refl _ | apply an_.step)⟩
def aJ_.l0 : Nat → List (S43) → Int → Option (Bool)
 | 0, _, _ => none
 | k + 1, x0, x3 => if x3 < (x0.length : Int) then (if 0 ≤ x3 then ((ay_.f k [aa_ x0 x3]).bind fun t102 => (if t102 = true then (if x3 > 0 then (if 0 ≤ (wrap64 (x3 - 1)) then (if (wrap64 (x3 - 1)) < (x0.length : Int) then ((bx_.f [aa_ x0 (wrap64 (x3 - 1))] [aa_ x0 x3]).bind fun t105 => (if t105 = true then (aJ_.l0 k x0 (wrap64 (x3 + 1))) else (some false))) else (none)) else (none)) else (aJ_.l0 k x0 (wrap64 (x3 + 1)))) else (some false))) else (none)) else (some (decide ((x0.length : Int) ≤ 32)))
def aJ_.f (k : Nat) (l0 : List (S43)) : Option (Bool) := aJ_.l0 k l0 0
set_option maxHeartbeats 8000000 in
set_option maxRecDepth 100000 in
theorem aJ_.calls (k : Nat) (A0 : Option Addr) (c0 : Nat) (l0 : List (S43)) (r : Bool) (w : World) (hr0 : Kd.C k43 w A0 l0.length l0) (hc0 : l0.length ≤ c0) (h : aJ_.f k l0 = some r) :
  Calls Tryd.prog 43 #[.slice A0 l0.length c0] w fun e w' => e = .returned (.bool r) ∧ an_ w w' := by
 have HR0 := Aside0.mk hr0
 have HC0 := Aside0.mk hc0
 clear hr0 hc0
 have H : (aJ_.l0 k l0 0) = some r := h
 clear h
 have H' := Aside0.mk H
 clear H
 go_enter Tryd.func43, Tryd.ntmps43
 go_wp2
 repeat (go_quiet (fail); try go_wp2)
 (try simp only [Act.put, lsa_, ls0_, ls1_])
 go_loopg [3] k (fun kq v3 w' => ∃ (x3_1 : Int), v3 = .int .i64 x3_1 ∧ Aside0 (aJ_.l0 kq l0 x3_1 = some r) ∧ Aside0 (kq ≤ k) ∧ an_ w w')
 case atStart => exact ⟨(0), (by first | rfl | (simp; done) | (simp [*]; done)), H', ⟨Nat.le_refl _⟩, by repeat (first | exact an_.refl _ | apply an_.step)⟩
 case round =>
  clear H'
  obtain ⟨x3_1, rfl, HA, HK1, ⟨m1, rfl⟩⟩ := hrel
  cases gk with
  | zero => exact absurd HA.out (by simp [aJ_.l0])
  | succ k1 =>
   have H := HA.out
   clear HA
   simp only [aJ_.l0] at H
   by_cases c2 : x3_1 < (l0.length : Int)
   rotate_left
   ·rw [if_neg c2] at H
    have c2b0 : decide (x3_1 < (l0.length : Int)) = false := decide_eq_false c2
    clear c2
    obtain rfl := Option.some.inj H
    go_wp2
    repeat (go_quiet (fail); try go_wp2)
    go_ret
    exact ⟨by first | rfl | (simp; done) | (simp [*]; done), by repeat (first | exact an_.refl _ | apply an_.step)⟩
   rw [if_pos c2] at H
   have c2b0 : decide (x3_1 < (l0.length : Int)) = true := decide_eq_true c2
   clear c2
   by_cases c3 : 0 ≤ x3_1
   rotate_left
   ·rw [if_neg c3] at H
    exact absurd H (by simp)
   rw [if_pos c3] at H
   have c3b0 : decide (0 ≤ x3_1) = true := decide_eq_true c3
   clear c3
   replace H := Option.bind_eq_some_iff.mp H
   obtain ⟨t102, A40, H⟩ := H
   (try dsimp only at H)
   have A4 := Aside0.mk A40
   clear A40
   by_cases c5 : t102 = true
   rotate_left
   ·replace c5 := Bool.eq_false_iff.mpr c5
    subst c5
    have H1 : (some false) = some r := by rw [if_neg (show ¬ (false = true) by decide)] at H; exact H
    clear H
    have H := H1
    clear H1
    obtain rfl := Option.some.inj H
    have p101 : 0 ≤ (x3_1 : Int) := of_decide_eq_true (by assumption)
    have q101 : x3_1 < (l0.length : Int) := of_decide_eq_true (by assumption)
    obtain ⟨ad101, e101, hx101_0, hx101_1, hx101_2⟩ := br_ HR0.out x3_1 p101 q101
    cases e101
    replace p101 := eq_true p101
    replace q101 := eq_true q101
    go_wp2_with (first | (go_at_call 49; (with_reducible refine (ay_.calls k1 _ [aa_ l0 x3_1] false _ ?side1 A4.out).mono ?_); (case side1 => exact (RPW.cT_ (ad := ad101) (n := l0.length) (xs := l0) z43 (i := x3_1) (by first | exact of_eq_true p101 | exact p101 | omega) (by first | exact of_eq_true q101 | exact q101 | omega) (by first | exact HR0.out | exact cz HR0.out))); rintro e w' ⟨rfl, ⟨nd, rfl⟩⟩; (try first | exact ⟨rfl, _, World.drewN_drewN _ _ _⟩ | exact ⟨rfl, _, Eq.trans (World.drewN_drewN _ _ _) (congrArg (World.drewN _) (Nat.add_assoc _ _ _))⟩)))
    repeat (go_quiet (first | (go_at_call 49; (with_reducible refine (ay_.calls k1 _ [aa_ l0 x3_1] false _ ?side1 A4.out).mono ?_); (case side1 => exact (RPW.cT_ (ad := ad101) (n := l0.length) (xs := l0) z43 (i := x3_1) (by first | exact of_eq_true p101 | exact p101 | omega) (by first | exact of_eq_true q101 | exact q101 | omega) (by first | exact HR0.out | exact cz HR0.out))); rintro e w' ⟨rfl, ⟨nd, rfl⟩⟩; (try first | exact ⟨rfl, _, World.drewN_drewN _ _ _⟩ | exact ⟨rfl, _, Eq.trans (World.drewN_drewN _ _ _) (congrArg (World.drewN _) (Nat.add_assoc _ _ _))⟩))); try go_wp2_with (first | (go_at_call 49; (with_reducible refine (ay_.calls k1 _ [aa_ l0 x3_1] false _ ?side1 A4.out).mono ?_); (case side1 => exact (RPW.cT_ (ad := ad101) (n := l0.length) (xs := l0) z43 (i := x3_1) (by first | exact of_eq_true p101 | exact p101 | omega) (by first | exact of_eq_true q101 | exact q101 | omega) (by first | exact HR0.out | exact cz HR0.out))); rintro e w' ⟨rfl, ⟨nd, rfl⟩⟩; (try first | exact ⟨rfl, _, World.drewN_drewN _ _ _⟩ | exact ⟨rfl, _, Eq.trans (World.drewN_drewN _ _ _) (congrArg (World.drewN _) (Nat.add_assoc _ _ _))⟩))))
    go_ret
    exact ⟨by first | rfl | (simp; done) | (simp [*]; done), by repeat (first | exact an_.refl _ | apply an_.step)⟩
   subst c5
   have H1 : (if x3_1 > 0 then (if 0 ≤ (wrap64 (x3_1 - 1)) then (if (wrap64 (x3_1 - 1)) < (l0.length : Int) then ((bx_.f [aa_ l0 (wrap64 (x3_1 - 1))] [aa_ l0 x3_1]).bind fun t105 => (if t105 = true then (aJ_.l0 k1 l0 (wrap64 (x3_1 + 1))) else (some false))) else (none)) else (none)) else (aJ_.l0 k1 l0 (wrap64 (x3_1 + 1)))) = some r := by rw [if_pos rfl] at H; exact H
   clear H
   have H := H1
   clear H1
   by_cases c6 : x3_1 > 0
   rotate_left
   ·rw [if_neg c6] at H
    have c6b0 : decide (0 < x3_1) = false := decide_eq_false c6
    clear c6
    have H' := Aside0.mk H
    clear H
    have p101 : 0 ≤ (x3_1 : Int) := of_decide_eq_true (by assumption)
    have q101 : x3_1 < (l0.length : Int) := of_decide_eq_true (by assumption)
    obtain ⟨ad101, e101, hx101_0, hx101_1, hx101_2⟩ := br_ HR0.out x3_1 p101 q101
    cases e101
    replace p101 := eq_true p101
    replace q101 := eq_true q101
    go_wp2_with (first | (go_at_call 49; (with_reducible refine (ay_.calls k1 _ [aa_ l0 x3_1] true _ ?side1 A4.out).mono ?_); (case side1 => exact (RPW.cT_ (ad := ad101) (n := l0.length) (xs := l0) z43 (i := x3_1) (by first | exact of_eq_true p101 | exact p101 | omega) (by first | exact of_eq_true q101 | exact q101 | omega) (by first | exact HR0.out | exact cz HR0.out))); rintro e w' ⟨rfl, ⟨nd, rfl⟩⟩; (try first | exact ⟨rfl, _, World.drewN_drewN _ _ _⟩ | exact ⟨rfl, _, Eq.trans (World.drewN_drewN _ _ _) (congrArg (World.drewN _) (Nat.add_assoc _ _ _))⟩)))
    repeat (go_quiet (first | (go_at_call 49; (with_reducible refine (ay_.calls k1 _ [aa_ l0 x3_1] true _ ?side1 A4.out).mono ?_); (case side1 => exact (RPW.cT_ (ad := ad101) (n := l0.length) (xs := l0) z43 (i := x3_1) (by first | exact of_eq_true p101 | exact p101 | omega) (by first | exact of_eq_true q101 | exact q101 | omega) (by first | exact HR0.out | exact cz HR0.out))); rintro e w' ⟨rfl, ⟨nd, rfl⟩⟩; (try first | exact ⟨rfl, _, World.drewN_drewN _ _ _⟩ | exact ⟨rfl, _, Eq.trans (World.drewN_drewN _ _ _) (congrArg (World.drewN _) (Nat.add_assoc _ _ _))⟩))); try go_wp2_with (first | (go_at_call 49; (with_reducible refine (ay_.calls k1 _ [aa_ l0 x3_1] true _ ?side1 A4.out).mono ?_); (case side1 => exact (RPW.cT_ (ad := ad101) (n := l0.length) (xs := l0) z43 (i := x3_1) (by first | exact of_eq_true p101 | exact p101 | omega) (by first | exact of_eq_true q101 | exact q101 | omega) (by first | exact HR0.out | exact cz HR0.out))); rintro e w' ⟨rfl, ⟨nd, rfl⟩⟩; (try first | exact ⟨rfl, _, World.drewN_drewN _ _ _⟩ | exact ⟨rfl, _, Eq.trans (World.drewN_drewN _ _ _) (congrArg (World.drewN _) (Nat.add_assoc _ _ _))⟩))))
    go_roundg k1
    case measure => have := HK1.out; omega
    case rel => exact ⟨(wrap64 (x3_1 + 1)), (by first | rfl | (simp; done) | (simp [*]; done)), H', ⟨by have := HK1.out; omega⟩, by repeat (first | exact an_.refl _ | apply an_.step)⟩
   rw [if_pos c6] at H
   have c6b0 : decide (0 < x3_1) = true := decide_eq_true c6
   clear c6
   obtain ⟨ji7, hji7⟩ : ∃ j_ : Int, (wrap64 (x3_1 - 1)) = j_ := ⟨_, rfl⟩
   replace H : (if 0 ≤ (ji7) then (if (ji7) < (l0.length : Int) then ((bx_.f [aa_ l0 (ji7)] [aa_ l0 x3_1]).bind fun t105 => (if t105 = true then (aJ_.l0 k1 l0 (wrap64 (x3_1 + 1))) else (some false))) else (none)) else (none)) = some r := by first | (rw [hji7] at H; exact H) | (simp only [hji7] at H ⊢; exact H)
   (try rw [hji7] at A4)
   have hji7w : (IntKind.i64.wrap (x3_1 - 1)) = ji7 := (i64_w _).trans hji7
   by_cases c8 : 0 ≤ (ji7)
   rotate_left
   ·rw [if_neg c8] at H
    exact absurd H (by simp)
   rw [if_pos c8] at H
   have c8b0 : decide (0 ≤ (ji7)) = true := decide_eq_true c8
   clear c8
   by_cases c9 : (ji7) < (l0.length : Int)
   rotate_left
   ·rw [if_neg c9] at H
    exact absurd H (by simp)
   rw [if_pos c9] at H
   have c9b0 : decide ((ji7) < (l0.length : Int)) = true := decide_eq_true c9
   clear c9
   replace H := Option.bind_eq_some_iff.mp H
   obtain ⟨t105, A100, H⟩ := H
   (try dsimp only at H)
   have A10 := Aside0.mk A100
   clear A100
   have HC11 := Aside0.mk H
   clear H
   have p101 : 0 ≤ (x3_1 : Int) := of_decide_eq_true (by assumption)
   have q101 : x3_1 < (l0.length : Int) := of_decide_eq_true (by assumption)
   obtain ⟨ad101, e101, hx101_0, hx101_1, hx101_2⟩ := br_ HR0.out x3_1 p101 q101
   cases e101
   replace p101 := eq_true p101
   replace q101 := eq_true q101
   have p103 : 0 ≤ ((ji7) : Int) := of_decide_eq_true (by assumption)
   have q103 : (ji7) < (l0.length : Int) := of_decide_eq_true (by assumption)
   obtain ⟨ad103, e103, hx103_0, hx103_1, hx103_2⟩ := br_ HR0.out (ji7) p103 q103
   obtain rfl : ad101 = ad103 := (by injection e103)
   replace p103 := eq_true p103
   replace q103 := eq_true q103
   have p104 : 0 ≤ (x3_1 : Int) := of_decide_eq_true (by assumption)
   have q104 : x3_1 < (l0.length : Int) := of_decide_eq_true (by assumption)
   obtain ⟨ad104, e104, hx104_0, hx104_1, hx104_2⟩ := br_ HR0.out x3_1 p104 q104
   obtain rfl : ad101 = ad104 := (by injection e104)
   replace p104 := eq_true p104
   replace q104 := eq_true q104
   go_upto_if 29 with (first | (go_at_call 49; (with_reducible refine (ay_.calls k1 _ [aa_ l0 x3_1] true _ ?side1 A4.out).mono ?_); (case side1 => exact (RPW.cT_ (ad := ad101) (n := l0.length) (xs := l0) z43 (i := x3_1) (by first | exact of_eq_true p101 | exact p101 | omega) (by first | exact of_eq_true q101 | exact q101 | omega) (by first | exact HR0.out | exact cz HR0.out))); rintro e w' ⟨rfl, ⟨nd, rfl⟩⟩; (try first | exact ⟨rfl, _, World.drewN_drewN _ _ _⟩ | exact ⟨rfl, _, Eq.trans (World.drewN_drewN _ _ _) (congrArg (World.drewN _) (Nat.add_assoc _ _ _))⟩)) | (go_at_call 31; (with_reducible refine (bx_.calls _ [aa_ l0 (ji7)] _ [aa_ l0 x3_1] t105 _ ?side1 ?side2 A10.out).mono ?_); (case side1 => exact (RPW.cT_ (ad := ad101) (n := l0.length) (xs := l0) z43 (i := (ji7)) (by first | exact of_eq_true p103 | exact p103 | omega) (by first | exact of_eq_true q103 | exact q103 | omega) (by first | exact HR0.out | exact cz HR0.out))); (case side2 => exact (RPW.cT_ (ad := ad101) (n := l0.length) (xs := l0) z43 (i := x3_1) (by first | exact of_eq_true p104 | exact p104 | omega) (by first | exact of_eq_true q104 | exact q104 | omega) (by first | exact HR0.out | exact cz HR0.out))); rintro e w' ⟨rfl, ⟨nd, rfl⟩⟩; (try first | exact ⟨rfl, _, World.drewN_drewN _ _ _⟩ | exact ⟨rfl, _, Eq.trans (World.drewN_drewN _ _ _) (congrArg (World.drewN _) (Nat.add_assoc _ _ _))⟩)))
   repeat (go_quiet (first | (go_at_call 49; (with_reducible refine (ay_.calls k1 _ [aa_ l0 x3_1] true _ ?side1 A4.out).mono ?_); (case side1 => exact (RPW.cT_ (ad := ad101) (n := l0.length) (xs := l0) z43 (i := x3_1) (by first | exact of_eq_true p101 | exact p101 | omega) (by first | exact of_eq_true q101 | exact q101 | omega) (by first | exact HR0.out | exact cz HR0.out))); rintro e w' ⟨rfl, ⟨nd, rfl⟩⟩; (try first | exact ⟨rfl, _, World.drewN_drewN _ _ _⟩ | exact ⟨rfl, _, Eq.trans (World.drewN_drewN _ _ _) (congrArg (World.drewN _) (Nat.add_assoc _ _ _))⟩)) | (go_at_call 31; (with_reducible refine (bx_.calls _ [aa_ l0 (ji7)] _ [aa_ l0 x3_1] t105 _ ?side1 ?side2 A10.out).mono ?_); (case side1 => exact (RPW.cT_ (ad := ad101) (n := l0.length) (xs := l0) z43 (i := (ji7)) (by first | exact of_eq_true p103 | exact p103 | omega) (by first | exact of_eq_true q103 | exact q103 | omega) (by first | exact HR0.out | exact cz HR0.out))); (case side2 => exact (RPW.cT_ (ad := ad101) (n := l0.length) (xs := l0) z43 (i := x3_1) (by first | exact of_eq_true p104 | exact p104 | omega) (by first | exact of_eq_true q104 | exact q104 | omega) (by first | exact HR0.out | exact cz HR0.out))); rintro e w' ⟨rfl, ⟨nd, rfl⟩⟩; (try first | exact ⟨rfl, _, World.drewN_drewN _ _ _⟩ | exact ⟨rfl, _, Eq.trans (World.drewN_drewN _ _ _) (congrArg (World.drewN _) (Nat.add_assoc _ _ _))⟩))); go_upto_if 29 with (first | (go_at_call 49; (with_reducible refine (ay_.calls k1 _ [aa_ l0 x3_1] true _ ?side1 A4.out).mono ?_); (case side1 => exact (RPW.cT_ (ad := ad101) (n := l0.length) (xs := l0) z43 (i := x3_1) (by first | exact of_eq_true p101 | exact p101 | omega) (by first | exact of_eq_true q101 | exact q101 | omega) (by first | exact HR0.out | exact cz HR0.out))); rintro e w' ⟨rfl, ⟨nd, rfl⟩⟩; (try first | exact ⟨rfl, _, World.drewN_drewN _ _ _⟩ | exact ⟨rfl, _, Eq.trans (World.drewN_drewN _ _ _) (congrArg (World.drewN _) (Nat.add_assoc _ _ _))⟩)) | (go_at_call 31; (with_reducible refine (bx_.calls _ [aa_ l0 (ji7)] _ [aa_ l0 x3_1] t105 _ ?side1 ?side2 A10.out).mono ?_); (case side1 => exact (RPW.cT_ (ad := ad101) (n := l0.length) (xs := l0) z43 (i := (ji7)) (by first | exact of_eq_true p103 | exact p103 | omega) (by first | exact of_eq_true q103 | exact q103 | omega) (by first | exact HR0.out | exact cz HR0.out))); (case side2 => exact (RPW.cT_ (ad := ad101) (n := l0.length) (xs := l0) z43 (i := x3_1) (by first | exact of_eq_true p104 | exact p104 | omega) (by first | exact of_eq_true q104 | exact q104 | omega) (by first | exact HR0.out | exact cz HR0.out))); rintro e w' ⟨rfl, ⟨nd, rfl⟩⟩; (try first | exact ⟨rfl, _, World.drewN_drewN _ _ _⟩ | exact ⟨rfl, _, Eq.trans (World.drewN_drewN _ _ _) (congrArg (World.drewN _) (Nat.add_assoc _ _ _))⟩))))
   (try simp only [Act.put, lsa_, ls0_, ls1_])
   have H := HC11.out
   clear HC11
   by_cases c12 : t105 = true
   rotate_left
   ·replace c12 := Bool.eq_false_iff.mpr c12
    subst c12
    have H1 : (some false) = some r := by rw [if_neg (show ¬ (false = true) by decide)] at H; exact H
    clear H
    have H := H1
    clear H1
    obtain rfl := Option.some.inj H
    go_wp2
    repeat (go_quiet (fail); try go_wp2)
    go_ret
    exact ⟨by first | rfl | (simp; done) | (simp only [← hji7] <;> (first | rfl | simp)) | (simp [*]; done), by repeat (first | exact an_.refl _ | apply an_.step)⟩
   subst c12
   have H1 : (aJ_.l0 k1 l0 (wrap64 (x3_1 + 1))) = some r := by rw [if_pos rfl] at H; exact H
   clear H
   have H := H1
   clear H1
   have H' := Aside0.mk H
   clear H
   go_wp2
   repeat (go_quiet (fail); try go_wp2)
   go_roundg k1
   case measure => have := HK1.out; omega
   case rel => exact ⟨(wrap64 (x3_1 + 1)), (by first | rfl | (simp; done) | (simp [*]; done)), H', ⟨by have := HK1.out; omega⟩, by repeat (first | exact an_.refl _ | apply an_.step)⟩
def bo_.j0 : Nat → List (S43) → Bool → ByteArray → ByteArray → ByteArray → Option ((List (S43)) × Int)
 | 0, _, _, _, _, _ => none
 | k + 1, x0, x13, x102000, x102001, x102002 => if x13 = true then (some (([] : List (S43)), 1)) else ((aA_.f k x0 x102000 x102001 x102002).bind fun t104 => (if (t104.length : Int) > 32 then (some (([] : List (S43)), 5)) else (some (t104, 0))))
def bo_.f (k : Nat) (l0 : List (S43)) (a1_0 : ByteArray) (a1_1 : ByteArray) (a1_2 : ByteArray) : Option ((List (S43)) × Int) := (aJ_.f k l0).bind fun t102 => (if t102 = true then ((ay_.f k [(⟨a1_0, a1_1, a1_2⟩ : S43)]).bind fun t103 => (bo_.j0 k l0 (!t103) a1_0 a1_1 a1_2)) else (bo_.j0 k l0 true a1_0 a1_1 a1_2))
set_option maxHeartbeats 8000000 in
set_option maxRecDepth 100000 in
theorem bo_.calls (k : Nat) (A0 : Option Addr) (c0 : Nat) (l0 : List (S43)) (a1_0 : ByteArray) (a1_1 : ByteArray) (a1_2 : ByteArray) (r1 : List (S43)) (r2 : Int) (w : World) (hr0 : Kd.C k43 w A0 l0.length l0) (hc0 : l0.length ≤ c0) (h : bo_.f k l0 a1_0 a1_1 a1_2 = some (r1, r2)) :
  Calls Tryd.prog 66 #[.slice A0 l0.length c0, .agg #[.string a1_0, .string a1_1, .string a1_2]] w fun e w' => ∃ v0_ : Value, e = .returned (.tuple #[v0_, .int .i64 r2]) ∧ Kd.R k43 43 w' w.heap.size (fun _ => True) v0_ r1 ∧ Below w.heap.size w w' := by
 have hu43 := Tryd.underlying43
 have HR0 := Aside0.mk hr0
 have HC0 := Aside0.mk hc0
 clear hr0 hc0
 have HB := Aside0.mk (Below.refl w.heap.size w)
 have H : ((aJ_.f k l0).bind fun t102 => (if t102 = true then ((ay_.f k [(⟨a1_0, a1_1, a1_2⟩ : S43)]).bind fun t103 => (bo_.j0 k l0 (!t103) a1_0 a1_1 a1_2)) else (bo_.j0 k l0 true a1_0 a1_1 a1_2))) = some (r1, r2) := h
 clear h
 have HC3 := Aside0.mk H
 clear H
 go_enter Tryd.func66, Tryd.ntmps66
 go_upto_region 1 with (first | ((with_reducible refine aS_ (N := 3) rfl ?_); refine bB_ ?hg (N := 3) ?hd (cs := #[.string a1_0, .string a1_1, .string a1_2]) (t := 43) ?hr ?_; (case hd => rfl); (case hg => rfl); (case hr => (go_simp; try rfl)); intro gb101 hg w4 hbox hb; have BK101 := Aside0.mk (hbox); have GW101 := Aside0.mk ((by rw [hg]; exact (ak_ (bz HB.out)) : w.heap.size ≤ gb101)); have GE101 := GW101; replace HB := Aside0.mk (ah_ (bz HB.out) hb); clear hb hbox hg))
 (try simp only [Act.put, lsa_, ls0_, ls1_])
 go_cut [13] (fun v13 wc => ∃ (kq : Nat) (x13_2 : Bool), v13 = .bool x13_2 ∧ Aside0 (bo_.j0 kq l0 x13_2 a1_0 a1_1 a1_2 = some (r1, r2)) ∧ Aside0 (kq ≤ k) ∧ Aside0 (wc.heap[gb101]? = some (.cells #[.string a1_0, .string a1_1, .string a1_2] 43 (0, 0))) ∧ Aside0 (Below w.heap.size w wc))
 case first =>
  have H := HC3.out
  clear HC3
  replace H := Option.bind_eq_some_iff.mp H
  obtain ⟨t102, A50, H⟩ := H
  (try dsimp only at H)
  have A5 := Aside0.mk A50
  clear A50
  by_cases c6 : t102 = true
  rotate_left
  ·replace c6 := Bool.eq_false_iff.mpr c6
   subst c6
   have H1 : (bo_.j0 k l0 true a1_0 a1_1 a1_2) = some (r1, r2) := by rw [if_neg (show ¬ (false = true) by decide)] at H; exact H
   clear H
   have H := H1
   clear H1
   have H' := Aside0.mk H
   clear H
   go_wp2_with (first | ((with_reducible refine al_ (f := 43) rfl ?_); refine bf_ (some 8) rfl rfl Tryd.func43 (by kernel_rfl) rfl #[.slice A0 l0.length c0] rfl (by first | rfl | (simp only [lma_, lmc_, lmn_]; first | done | rfl)) ?_; (with_reducible refine (aJ_.calls k _ _ l0 false _ ?side1 ?side2 A5.out).mono ?_); (case side1 => exact cz (Kd.bW_ HR0.out HB.out)); (case side2 => exact HC0.out); rintro e w' ⟨rfl, ⟨nd, rfl⟩⟩; refine ⟨_, rfl, ?_⟩))
   go_meet
   case rel => exact ⟨_, (true), (by first | rfl | (simp; done) | (simp [*]; done)), H', ⟨by first | omega | exact Nat.le_refl _⟩, ⟨by (with_reducible repeat (first | refine bj_ ?_ _ | refine aX_ ?_ | refine aU_ ?_ _)); exact BK101.out⟩, ⟨bq⟩⟩
  subst c6
  have H1 : ((ay_.f k [(⟨a1_0, a1_1, a1_2⟩ : S43)]).bind fun t103 => (bo_.j0 k l0 (!t103) a1_0 a1_1 a1_2)) = some (r1, r2) := by rw [if_pos rfl] at H; exact H
  clear H
  have H := H1
  clear H1
  replace H := Option.bind_eq_some_iff.mp H
  obtain ⟨t103, A70, H⟩ := H
  (try dsimp only at H)
  have A7 := Aside0.mk A70
  clear A70
  have H' := Aside0.mk H
  clear H
  go_wp2_with (first | ((with_reducible refine al_ (f := 43) rfl ?_); refine bf_ (some 8) rfl rfl Tryd.func43 (by kernel_rfl) rfl #[.slice A0 l0.length c0] rfl (by first | rfl | (simp only [lma_, lmc_, lmn_]; first | done | rfl)) ?_; (with_reducible refine (aJ_.calls k _ _ l0 true _ ?side1 ?side2 A5.out).mono ?_); (case side1 => exact cz (Kd.bW_ HR0.out HB.out)); (case side2 => exact HC0.out); rintro e w' ⟨rfl, ⟨nd, rfl⟩⟩; refine ⟨_, rfl, ?_⟩) | (go_at_call 49; (with_reducible refine (ay_.calls k _ [(⟨a1_0, a1_1, a1_2⟩ : S43)] t103 _ ?side1 A7.out).mono ?_); (case side1 => exact (RPW.C_blk (cs := [.string a1_0, .string a1_1, .string a1_2]) (t := 43) (g := gb101) (kz BK101.out) (k43_mk _ (⟨a1_0, a1_1, a1_2⟩ : S43)))); rintro e w' ⟨rfl, ⟨nd, rfl⟩⟩))
  go_meet
  case rel => exact ⟨_, (!t103), (by first | rfl | (simp; done) | (simp [*]; done)), H', ⟨by first | omega | exact Nat.le_refl _⟩, ⟨by (with_reducible repeat (first | refine bj_ ?_ _ | refine aX_ ?_ | refine aU_ ?_ _)); exact BK101.out⟩, ⟨bq⟩⟩
 case rest =>
  clear HC3
  obtain ⟨kq, x13_2, rfl, HA, HJ2, BK101, HB⟩ := hcut
  cases kq with
  | zero => exact absurd HA.out (by simp [bo_.j0])
  | succ kj2 =>
   have H := HA.out
   clear HA
   simp only [bo_.j0] at H
   by_cases c8 : x13_2 = true
   rotate_left
   ·replace c8 := Bool.eq_false_iff.mpr c8
    subst c8
    have H1 : ((aA_.f kj2 l0 a1_0 a1_1 a1_2).bind fun t104 => (if (t104.length : Int) > 32 then (some (([] : List (S43)), 5)) else (some (t104, 0)))) = some (r1, r2) := by rw [if_neg (show ¬ (false = true) by decide)] at H; exact H
    clear H
    have H := H1
    clear H1
    replace H := Option.bind_eq_some_iff.mp H
    obtain ⟨t104, A90, H⟩ := H
    (try dsimp only at H)
    have A9 := Aside0.mk A90
    clear A90
    have HC10 := Aside0.mk H
    clear H
    obtain ⟨hcz11_0, hcz11_1, hcz11_2⟩ := cz3_ BK101.out
    obtain ⟨hfz11_0, hfz11_1, hfz11_2⟩ := fz3_ BK101.out
    go_upto_if 19 with (first | ((with_reducible refine al_ (f := 39) rfl ?_); refine bf_ (some 16) rfl rfl Tryd.func39 (by kernel_rfl) rfl #[.slice A0 l0.length c0, .agg #[.string a1_0, .string a1_1, .string a1_2]] rfl (by first | rfl | (simp only [lma_, lmc_, lmn_]; first | done | rfl)) ?_; (with_reducible refine (aA_.calls kj2 _ _ l0 a1_0 a1_1 a1_2 t104 _ ?side1 ?side2 A9.out).mono ?_); (case side1 => exact cz (Kd.bW_ HR0.out HB.out)); (case side2 => exact HC0.out); rintro e w12 ⟨v105, rfl, ho0, hb⟩; refine ⟨_, rfl, ?_⟩; have HO106 := Aside0.mk (Kd.bw_ (Kd.R_newB ho0 (g := gb101) (o := .cells #[.string a1_0, .string a1_1, .string a1_2] 43 (0, 0)) (kz BK101.out)) (ak_ (bq))); replace BK101 := Aside0.mk (az_ (kz BK101.out) hb); replace HB := Aside0.mk (ah_ (bq) hb); (try clear hb); (try clear ho0); obtain ⟨Ao13, co13, eo13⟩ := Kd.bL_ HO106.out; subst eo13))
    (try simp only [Act.put, lsa_, ls0_, ls1_])
    have H := HC10.out
    clear HC10
    by_cases c14 : (t104.length : Int) > 32
    rotate_left
    ·rw [if_neg c14] at H
     have c14b0 : decide (32 < (t104.length : Int)) = false := decide_eq_false c14
     have c14b1 : decide (32 < t104.length) = false := decide_eq_false (by omega)
     clear c14
     (first | rw [c14b0] | (simp only [i64_w, i32_w]; rw [c14b0]) | (simp only [c14b1, Bool.not_true, Bool.not_false]) | (simp only [c14b0, Bool.not_true, Bool.not_false]) | skip)
     simp only [Option.some.injEq, Prod.mk.injEq] at H
     obtain ⟨rfl, rfl⟩ := H
     go_wp2
     go_ret2
     exact ⟨_, by first | rfl | (simp [*, aw_, av_] <;> rfl), rz (Kd.aG_ HO106.out (fun _ hk => trivial)), bq⟩
    rw [if_pos c14] at H
    have c14b0 : decide (32 < (t104.length : Int)) = true := decide_eq_true c14
    have c14b1 : decide (32 < t104.length) = true := decide_eq_true (by omega)
    clear c14
    (first | rw [c14b0] | (simp only [i64_w, i32_w]; rw [c14b0]) | (simp only [c14b1, Bool.not_true, Bool.not_false]) | (simp only [c14b0, Bool.not_true, Bool.not_false]) | skip)
    simp only [Option.some.injEq, Prod.mk.injEq] at H
    obtain ⟨rfl, rfl⟩ := H
    go_wp2
    go_ret2
    exact ⟨_, by first | rfl | (simp [*, aw_, av_] <;> rfl), by first | exact Kd.R_nil _ _ _ _ _ | exact Kd.N_nil _ _ _ _ _ | exact Kd.V_nil _ _ _ _ _ | exact Kd.Q_nil _ _ _ _ _ | exact Kd.S_nil _ _ _ _ _, bq⟩
   subst c8
   have H1 : (some (([] : List (S43)), 1)) = some (r1, r2) := by rw [if_pos rfl] at H; exact H
   clear H
   have H := H1
   clear H1
   simp only [Option.some.injEq, Prod.mk.injEq] at H
   obtain ⟨rfl, rfl⟩ := H
   go_wp2
   go_ret2
   exact ⟨_, by first | rfl | (simp [*, aw_, av_] <;> rfl), by first | exact Kd.R_nil _ _ _ _ _ | exact Kd.N_nil _ _ _ _ _ | exact Kd.V_nil _ _ _ _ _ | exact Kd.Q_nil _ _ _ _ _ | exact Kd.S_nil _ _ _ _ _, bq⟩
def aR_.f (s0_0 : List Int) (s0_1 : Int) (s0_2 : Int) (l1 : List ByteArray) : Option (ByteArray × Int × Int) := (aj_.f s0_0 s0_1 s0_2 (l1.length : Int)).bind fun bt101 => (if 0 ≤ bt101.1 then (if bt101.1 < (l1.length : Int) then (some (rdOf ByteArray.empty l1 bt101.1, bt101.2.1, bt101.2.2)) else (none)) else (none))
set_option maxHeartbeats 8000000 in
set_option maxRecDepth 100000 in
theorem aR_.calls (g : Nat) (s0_0 : List Int) (s0_1 : Int) (s0_2 : Int) (A1 : Option Addr) (c1 : Nat) (l1 : List ByteArray) (r1 : ByteArray) (r2 : Int) (r3 : Int) (w0 w : World) (hI : IsS81 w0 w g s0_0 s0_1 s0_2) (hB : Below w0.heap.size w0 w) (hr1 : Kd.C Kd.string w A1 l1.length l1) (hc1 : l1.length ≤ c1) (hf1 : ∀ ad, A1 = some ad → 0 < l1.length → ad.block ≠ g) (h : aR_.f s0_0 s0_1 s0_2 l1 = some (r1, r2, r3)) :
  Calls Tryd.prog 84 #[.pointer (some ⟨g, 0, none⟩), .slice A1 l1.length c1] w fun e w' => e = .returned (.string r1) ∧ IsS81 w0 w' g s0_0 r2 r3 ∧ Below w0.heap.size w0 w' ∧ ac_ w w' g none := by
 have HR1 := Aside0.mk hr1
 have HC1 := Aside0.mk hc1
 clear hr1 hc1
 have HI0 := Aside0.mk hI
 have HK := Aside0.mk (ac_.refl w g none)
 have HL := Aside0.mk hB.size
 clear hI
 have HW0 := Aside0.mk hB.size
 have HB := Aside0.mk hB
 clear hB
 have H : ((aj_.f s0_0 s0_1 s0_2 (l1.length : Int)).bind fun bt101 => (if 0 ≤ bt101.1 then (if bt101.1 < (l1.length : Int) then (some (rdOf ByteArray.empty l1 bt101.1, bt101.2.1, bt101.2.2)) else (none)) else (none))) = some (r1, r2, r3) := h
 clear h
 replace H := Option.bind_eq_some_iff.mp H
 obtain ⟨⟨t101, t102, t103⟩, A30, H⟩ := H
 (try dsimp only at H)
 have A3 := Aside0.mk A30
 clear A30
 by_cases c4 : 0 ≤ t101
 rotate_left
 ·rw [if_neg c4] at H
  exact absurd H (by simp)
 rw [if_pos c4] at H
 have c4b0 : decide (0 ≤ t101) = true := decide_eq_true c4
 clear c4
 by_cases c5 : t101 < (l1.length : Int)
 rotate_left
 ·rw [if_neg c5] at H
  exact absurd H (by simp)
 rw [if_pos c5] at H
 have c5b0 : decide (t101 < (l1.length : Int)) = true := decide_eq_true c5
 clear c5
 simp only [Option.some.injEq, Prod.mk.injEq] at H
 obtain ⟨rfl, rfl, rfl⟩ := H
 go_enter Tryd.func84, Tryd.ntmps84
 go_wp2_with (first | ((with_reducible refine al_ (f := 65) rfl ?_); refine bf_ (some 9) rfl rfl Tryd.func65 (by kernel_rfl) rfl #[.pointer (some ⟨g, 0, none⟩), .int .i64 (l1.length : Int)] rfl (by first | rfl | (simp only [lma_, lmc_, lmn_]; first | done | rfl)) ?_; (with_reducible refine (aj_.calls g s0_0 s0_1 s0_2 (l1.length : Int) t101 t102 t103 w0 _ ?side1 ?side2 A3.out).mono ?_); (case side1 => repeat (first | (with_reducible first | exact HI0.out | apply IsS81.alloc | apply IsS81.drewN | apply IsS81.drew | apply IsS81.set_1 | apply IsS81.set_2) | exact HI0.out)); (case side2 => repeat (first | (with_reducible first | exact HB.out | apply bA_ | apply bN_ | apply bD_ | refine ab_ ?_ (IsS81.ge HI0.out)) | exact HB.out)); rintro e w6 ⟨rfl, hi, hb, hk⟩; refine ⟨_, rfl, ?_⟩; replace HK := Aside0.mk (ac_.trans (by repeat (first | (with_reducible first | exact HK.out | apply ac_.set_ | apply ad_ | apply af_ | apply ae_) | exact HK.out)) hk (.inl rfl)); replace HB := Aside0.mk (hb); replace HI0 := Aside0.mk (hi); (try clear hb); have p104 : 0 ≤ (t101 : Int) := of_decide_eq_true (by assumption); have q104 : t101 < (l1.length : Int) := of_decide_eq_true (by assumption); obtain ⟨ad104, e104, hx104_0⟩ := Kd.cc_ HR1.out t101 p104 q104; cases e104; replace hx104_0 := keep_cell HK.out hx104_0 (by first | (rw [add_block]; exact hf1 _ rfl (by omega)) | exact hf1 _ rfl (by omega) | exact hf1 ad104 rfl (by omega)); replace p104 := eq_true p104; replace q104 := eq_true q104))
 go_ret
 exact ⟨by first | rfl | (simp [*, aw_, av_] <;> rfl), by repeat (first | (with_reducible first | exact HI0.out | apply IsS81.alloc | apply IsS81.drewN | apply IsS81.drew | apply IsS81.set_1 | apply IsS81.set_2) | exact HI0.out), by repeat (first | (with_reducible first | exact HB.out | apply bA_ | apply bN_ | apply bD_ | refine ab_ ?_ (IsS81.ge HI0.out)) | exact HB.out), by repeat (first | (with_reducible first | exact HK.out | apply ac_.set_ | apply ad_ | apply af_ | apply ae_) | exact HK.out)⟩
def by_.f (s0_0 : List Int) (s0_1 : Int) (s0_2 : Int) (a1 : Int) : Option (Bool × Int × Int) := (aj_.f s0_0 s0_1 s0_2 a1).bind fun bt101 => (some ((bt101.1 == 0), bt101.2.1, bt101.2.2))
set_option maxHeartbeats 8000000 in
set_option maxRecDepth 100000 in
theorem by_.calls (g : Nat) (s0_0 : List Int) (s0_1 : Int) (s0_2 : Int) (a1 : Int) (r1 : Bool) (r2 : Int) (r3 : Int) (w0 w : World) (hI : IsS81 w0 w g s0_0 s0_1 s0_2) (hB : Below w0.heap.size w0 w) (h : by_.f s0_0 s0_1 s0_2 a1 = some (r1, r2, r3)) :
  Calls Tryd.prog 85 #[.pointer (some ⟨g, 0, none⟩), .int .i64 a1] w fun e w' => e = .returned (.bool r1) ∧ IsS81 w0 w' g s0_0 r2 r3 ∧ Below w0.heap.size w0 w' ∧ ac_ w w' g none := by
 have HI0 := Aside0.mk hI
 have HK := Aside0.mk (ac_.refl w g none)
 have HL := Aside0.mk hB.size
 clear hI
 have HW0 := Aside0.mk hB.size
 have HB := Aside0.mk hB
 clear hB
 have H : ((aj_.f s0_0 s0_1 s0_2 a1).bind fun bt101 => (some ((bt101.1 == 0), bt101.2.1, bt101.2.2))) = some (r1, r2, r3) := h
 clear h
 replace H := Option.bind_eq_some_iff.mp H
 obtain ⟨⟨t101, t102, t103⟩, A30, H⟩ := H
 (try dsimp only at H)
 have A3 := Aside0.mk A30
 clear A30
 simp only [Option.some.injEq, Prod.mk.injEq] at H
 obtain ⟨rfl, rfl, rfl⟩ := H
 go_enter Tryd.func85, Tryd.ntmps85
 go_wp2_with (first | ((with_reducible refine al_ (f := 65) rfl ?_); refine bf_ (some 7) rfl rfl Tryd.func65 (by kernel_rfl) rfl #[.pointer (some ⟨g, 0, none⟩), .int .i64 a1] rfl (by first | rfl | (simp only [lma_, lmc_, lmn_]; first | done | rfl)) ?_; (with_reducible refine (aj_.calls g s0_0 s0_1 s0_2 a1 t101 t102 t103 w0 _ ?side1 ?side2 A3.out).mono ?_); (case side1 => repeat (first | (with_reducible first | exact HI0.out | apply IsS81.alloc | apply IsS81.drewN | apply IsS81.drew | apply IsS81.set_1 | apply IsS81.set_2) | exact HI0.out)); (case side2 => repeat (first | (with_reducible first | exact HB.out | apply bA_ | apply bN_ | apply bD_ | refine ab_ ?_ (IsS81.ge HI0.out)) | exact HB.out)); rintro e w4 ⟨rfl, hi, hb, hk⟩; refine ⟨_, rfl, ?_⟩; replace HK := Aside0.mk (ac_.trans (by repeat (first | (with_reducible first | exact HK.out | apply ac_.set_ | apply ad_ | apply af_ | apply ae_) | exact HK.out)) hk (.inl rfl)); replace HB := Aside0.mk (hb); replace HI0 := Aside0.mk (hi); (try clear hb)))
 go_ret
 exact ⟨by first | rfl | (simp [*, aw_, av_] <;> rfl), by repeat (first | (with_reducible first | exact HI0.out | apply IsS81.alloc | apply IsS81.drewN | apply IsS81.drew | apply IsS81.set_1 | apply IsS81.set_2) | exact HI0.out), by repeat (first | (with_reducible first | exact HB.out | apply bA_ | apply bN_ | apply bD_ | refine ab_ ?_ (IsS81.ge HI0.out)) | exact HB.out), by repeat (first | (with_reducible first | exact HK.out | apply ac_.set_ | apply ad_ | apply af_ | apply ae_) | exact HK.out)⟩
def aQ_.l0 : Nat → List Int → Int → List Int → Int → Int → Option (ByteArray × Int × Int)
 | 0, _, _, _, _, _ => none
 | k + 1, x5, x6, x1000, x1001, x1002 => if x6 > 0 then ((bF_.f x1000 x1001 x1002).bind fun bt107 => (if x5.length < 140737488355328 then (aQ_.l0 k (x5 ++ [(bt107.1) % 256]) (wrap64 (x6 - 1)) x1000 bt107.2.1 bt107.2.2) else (none))) else (some (strOfNums x5, x1001, x1002))
def aQ_.f (k : Nat) (s0_0 : List Int) (s0_1 : Int) (s0_2 : Int) (a1 : Int) : Option (ByteArray × Int × Int) := (aj_.f s0_0 s0_1 s0_2 a1).bind fun bt104 => (aQ_.l0 k (([] : List Int)) bt104.1 s0_0 bt104.2.1 bt104.2.2)
set_option maxHeartbeats 8000000 in
set_option maxRecDepth 100000 in
theorem aQ_.calls (k : Nat) (g : Nat) (s0_0 : List Int) (s0_1 : Int) (s0_2 : Int) (a1 : Int) (r1 : ByteArray) (r2 : Int) (r3 : Int) (w0 w : World) (hI : IsS81 w0 w g s0_0 s0_1 s0_2) (hB : Below w0.heap.size w0 w) (h : aQ_.f k s0_0 s0_1 s0_2 a1 = some (r1, r2, r3)) :
  Calls Tryd.prog 86 #[.pointer (some ⟨g, 0, none⟩), .int .i64 a1] w fun e w' => e = .returned (.string r1) ∧ IsS81 w0 w' g s0_0 r2 r3 ∧ Below w0.heap.size w0 w' ∧ ac_ w w' g none := by
 have HI0 := Aside0.mk hI
 have HK := Aside0.mk (ac_.refl w g none)
 have HL := Aside0.mk hB.size
 clear hI
 have HW0 := Aside0.mk hB.size
 have HB := Aside0.mk hB
 clear hB
 have H : ((aj_.f s0_0 s0_1 s0_2 a1).bind fun bt104 => (aQ_.l0 k (([] : List Int)) bt104.1 s0_0 bt104.2.1 bt104.2.2)) = some (r1, r2, r3) := h
 clear h
 obtain ⟨y101, hy101⟩ : ∃ y_ : List Int, y_ = (([] : List Int)) := ⟨_, rfl⟩
 replace H : ((aj_.f s0_0 s0_1 s0_2 a1).bind fun bt104 => (aQ_.l0 k y101 bt104.1 s0_0 bt104.2.1 bt104.2.2)) = some (r1, r2, r3) := by first | (rw [hy101]; with_reducible exact H) | (have H2_ := (Option.bind_some _ _).symm.trans H; rw [hy101]; with_reducible exact H2_) | (have H2_ := (Option.bind_some _ _).symm.trans H; with_reducible exact H2_) | with_reducible exact H | (rw [hy101]; exact H) | exact H
 have Ny101 := Aside0.mk hy101
 clear hy101
 replace H := Option.bind_eq_some_iff.mp H
 obtain ⟨⟨t104, t105, t106⟩, A30, H⟩ := H
 (try dsimp only at H)
 have A3 := Aside0.mk A30
 clear A30
 have H' := Aside0.mk H
 clear H
 go_enter Tryd.func86, Tryd.ntmps86
 go_wp2_with (first | ((with_reducible refine aS_ (N := 7) rfl ?_); refine Kd.R_lit (Kd.int .u8) _ 5 ?hg (N := 7) ?hd (xs := ([] : List Int)) (inner := []) (ok := fun _ => True) (okp := fun _ => True) ?hr ?hp (fun _ hk => hk) trivial (Below.refl _ _) (Nat.le_refl _) (by simp) ?_; (case hd => rfl); (case hg => rfl); (case hr => (go_simp; try rfl)); (case hp => exact (Reps.none _ _)); intro v102 w4 ho5 hb hg_ hnew_; clear hg_ hnew_; (first | rw [← Ny101.out] at ho5 | (simp only [Int.reduceToNat] at ho5; rw [← Ny101.out] at ho5)); have HO103 := Aside0.mk (Kd.bw_ ho5 (aZ_ (w := w) (g := g) (row := none) (by repeat (first | (with_reducible first | exact HK.out | apply ac_.set_ | apply ad_ | apply af_ | apply ae_) | exact HK.out)))); replace HK := Aside0.mk (ac_.trans (by repeat (first | (with_reducible first | exact HK.out | apply ac_.set_ | apply ad_ | apply af_ | apply ae_) | exact HK.out)) (ac_.of_below hb g none) (.inl rfl)); replace HB := Aside0.mk (ah_ (by repeat (first | (with_reducible first | exact HB.out | apply bA_ | apply bN_ | apply bD_ | refine ab_ ?_ (IsS81.ge HI0.out)) | exact HB.out)) hb); replace HI0 := Aside0.mk (IsS81.below (by repeat (first | (with_reducible first | exact HI0.out | apply IsS81.alloc | apply IsS81.drewN | apply IsS81.drew | apply IsS81.set_1 | apply IsS81.set_2) | exact HI0.out)) hb); clear hb ho5) | ((with_reducible refine al_ (f := 65) rfl ?_); refine bf_ (some 10) rfl rfl Tryd.func65 (by kernel_rfl) rfl #[.pointer (some ⟨g, 0, none⟩), .int .i64 a1] rfl (by first | rfl | (simp only [lma_, lmc_, lmn_]; first | done | rfl)) ?_; (with_reducible refine (aj_.calls g s0_0 s0_1 s0_2 a1 t104 t105 t106 w0 _ ?side1 ?side2 A3.out).mono ?_); (case side1 => repeat (first | (with_reducible first | exact HI0.out | apply IsS81.alloc | apply IsS81.drewN | apply IsS81.drew | apply IsS81.set_1 | apply IsS81.set_2) | exact HI0.out)); (case side2 => repeat (first | (with_reducible first | exact HB.out | apply bA_ | apply bN_ | apply bD_ | refine ab_ ?_ (IsS81.ge HI0.out)) | exact HB.out)); rintro e w6 ⟨rfl, hi, hb, hk⟩; refine ⟨_, rfl, ?_⟩; replace HO103 := Aside0.mk (Kd.aG_ (Kd.cw_ (IsS81.apart (show IsS81 w0 _ g s0_0 s0_1 s0_2 from by repeat (first | (with_reducible first | exact HI0.out | apply IsS81.alloc | apply IsS81.drewN | apply IsS81.drew | apply IsS81.set_1 | apply IsS81.set_2) | exact HI0.out)) (rz HO103.out) (by decide)) hk (fun _ h => h.2)) (fun _ h => h.1)); replace HK := Aside0.mk (ac_.trans (by repeat (first | (with_reducible first | exact HK.out | apply ac_.set_ | apply ad_ | apply af_ | apply ae_) | exact HK.out)) hk (.inl rfl)); replace HB := Aside0.mk (hb); replace HI0 := Aside0.mk (hi); (try clear hb)))
 (try simp only [Act.put, lsa_, ls0_, ls1_])
 go_loopg [5, 6] k (fun kq v5 v6 w' => ∃ (x5_1 : List Int) (x6_1 : Int) (x1001_1 : Int) (x1002_1 : Int), v6 = .int .i64 x6_1 ∧ Aside0 (aQ_.l0 kq x5_1 x6_1 s0_0 x1001_1 x1002_1 = some (r1, r2, r3)) ∧ Aside0 (kq ≤ k) ∧ Aside0 (Kd.R (Kd.int .u8) 5 w' w.heap.size (fun _ => True) v5 x5_1) ∧ Aside0 (IsS81 w0 w' g s0_0 x1001_1 x1002_1) ∧ Aside0 (ac_ w w' g none) ∧ Aside0 (Below w0.heap.size w0 w'))
 case atStart => exact ⟨(y101), (t104), (t105), (t106), (by first | rfl | (simp; done) | (simp [*]; done)), H', ⟨Nat.le_refl _⟩, ⟨rz HO103.out⟩, ⟨by repeat (first | (with_reducible first | exact HI0.out | apply IsS81.alloc | apply IsS81.drewN | apply IsS81.drew | apply IsS81.set_1 | apply IsS81.set_2) | exact HI0.out)⟩, ⟨by repeat (first | (with_reducible first | exact HK.out | apply ac_.set_ | apply ad_ | apply af_ | apply ae_) | exact HK.out)⟩, ⟨by repeat (first | (with_reducible first | exact HB.out | apply bA_ | apply bN_ | apply bD_ | refine ab_ ?_ (IsS81.ge HI0.out)) | exact HB.out)⟩⟩
 case round =>
  clear H'
  obtain ⟨x5_1, x6_1, x1001_1, x1002_1, rfl, HA, HK1, HO_5, HI0, HK, HB⟩ := hrel
  cases gk with
  | zero => exact absurd HA.out (by simp [aQ_.l0])
  | succ k1 =>
   have H := HA.out
   clear HA
   simp only [aQ_.l0] at H
   by_cases c7 : x6_1 > 0
   rotate_left
   ·rw [if_neg c7] at H
    have c7b0 : decide (0 < x6_1) = false := decide_eq_false c7
    clear c7
    simp only [Option.some.injEq, Prod.mk.injEq] at H
    obtain ⟨rfl, rfl, rfl⟩ := H
    have hcv12 := own_string (P := Tryd.prog) Tryd.underlying33 Tryd.underlying5 Tryd.underlying9 (Kd.own_of_R HO_5.out)
    go_wp2
    go_ret
    exact ⟨by first | rfl | (simp [*, aw_, av_] <;> rfl), by repeat (first | (with_reducible first | exact HI0.out | apply IsS81.alloc | apply IsS81.drewN | apply IsS81.drew | apply IsS81.set_1 | apply IsS81.set_2) | exact HI0.out), by repeat (first | (with_reducible first | exact HB.out | apply bA_ | apply bN_ | apply bD_ | refine ab_ ?_ (IsS81.ge HI0.out)) | exact HB.out), by repeat (first | (with_reducible first | exact HK.out | apply ac_.set_ | apply ad_ | apply af_ | apply ae_) | exact HK.out)⟩
   rw [if_pos c7] at H
   have c7b0 : decide (0 < x6_1) = true := decide_eq_true c7
   clear c7
   replace H := Option.bind_eq_some_iff.mp H
   obtain ⟨⟨t107, t108, t109⟩, A80, H⟩ := H
   (try dsimp only at H)
   have A8 := Aside0.mk A80
   clear A80
   by_cases c9 : x5_1.length < 140737488355328
   rotate_left
   ·rw [if_neg c9] at H
    exact absurd H (by simp)
   rw [if_pos c9] at H
   have LMc9 := Aside0.mk c9
   clear c9
   obtain ⟨y110, hy110⟩ : ∃ y_ : List Int, y_ = (x5_1 ++ [(t107) % 256]) := ⟨_, rfl⟩
   replace H : (aQ_.l0 k1 y110 (wrap64 (x6_1 - 1)) s0_0 t108 t109) = some (r1, r2, r3) := by first | (rw [hy110]; with_reducible exact H) | (have H2_ := (Option.bind_some _ _).symm.trans H; rw [hy110]; with_reducible exact H2_) | (have H2_ := (Option.bind_some _ _).symm.trans H; with_reducible exact H2_) | with_reducible exact H | (rw [hy110]; exact H) | exact H
   have Ny110 := Aside0.mk hy110
   clear hy110
   have H' := Aside0.mk H
   clear H
   go_wp2_with (first | ((with_reducible refine al_ (f := 83) rfl ?_); refine bf_ (some 17) rfl rfl Tryd.func83 (by kernel_rfl) rfl #[.pointer (some ⟨g, 0, none⟩)] rfl (by first | rfl | (simp only [lma_, lmc_, lmn_]; first | done | rfl)) ?_; (with_reducible refine (bF_.calls g s0_0 x1001_1 x1002_1 t107 t108 t109 w0 _ ?side1 ?side2 A8.out).mono ?_); (case side1 => repeat (first | (with_reducible first | exact HI0.out | apply IsS81.alloc | apply IsS81.drewN | apply IsS81.drew | apply IsS81.set_1 | apply IsS81.set_2) | exact HI0.out)); (case side2 => repeat (first | (with_reducible first | exact HB.out | apply bA_ | apply bN_ | apply bD_ | refine ab_ ?_ (IsS81.ge HI0.out)) | exact HB.out)); rintro e w10 ⟨rfl, hi, hb, hk⟩; refine ⟨_, rfl, ?_⟩; replace HO_5 := Aside0.mk (Kd.aG_ (Kd.cw_ (IsS81.apart (show IsS81 w0 _ g s0_0 x1001_1 x1002_1 from by repeat (first | (with_reducible first | exact HI0.out | apply IsS81.alloc | apply IsS81.drewN | apply IsS81.drew | apply IsS81.set_1 | apply IsS81.set_2) | exact HI0.out)) (rz HO_5.out) (by decide)) hk (fun _ h => h.2)) (fun _ h => h.1)); replace HK := Aside0.mk (ac_.trans (by repeat (first | (with_reducible first | exact HK.out | apply ac_.set_ | apply ad_ | apply af_ | apply ae_) | exact HK.out)) hk (.inl rfl)); replace HB := Aside0.mk (hb); replace HI0 := Aside0.mk (hi); (try clear hb)) | ((with_reducible refine aY_ (b := .append) (xs := #[.tmp 15, .tmp 19]) rfl ?_); at_builtin; refine Kd.bM_ (Kd.int .u8) w.heap.size rfl (.tmp 15) (.tmp 19) 33 5 (.int .u8 0) 1 rfl Tryd.underlying33 info5 rfl (by decide) (by omega) u5 x5_1 ((t107) % 256) [.int .u8 ((t107) % 256)] (fun _ => True) (fun _ => False) rfl rfl ?aP (fun _ hk => hk.elim) ?aF ?aO (Below.refl _ _) ?aS ?aL ?_; (case aP => exact rfl); (case aF => exact (fun _ _ => trivial)); (case aO => exact (rz HO_5.out)); (case aS => exact (aZ_ (w := w) (g := g) (row := none) (by repeat (first | (with_reducible first | exact HK.out | apply ac_.set_ | apply ad_ | apply af_ | apply ae_) | exact HK.out)))); (case aL => have := LMc9.out; omega); intro v111 w11 ho hb hg hat; rw [← Ny110.out] at ho; replace HB := Aside0.mk (below_weaken (by repeat (first | (with_reducible first | exact HB.out | apply bA_ | apply bN_ | apply bD_ | refine ab_ ?_ (IsS81.ge HI0.out)) | exact HB.out)) HL.out hb); replace HI0 := Aside0.mk (IsS81.grown (by repeat (first | (with_reducible first | exact HI0.out | apply IsS81.alloc | apply IsS81.drewN | apply IsS81.drew | apply IsS81.set_1 | apply IsS81.set_2) | exact HI0.out)) hg (IsS81.own_ne HI0.out HO_5.out (by decide))); replace HK := Aside0.mk (ac_.trans (by repeat (first | (with_reducible first | exact HK.out | apply ac_.set_ | apply ad_ | apply af_ | apply ae_) | exact HK.out)) (ac_.of_grown hg g) (Kd.R_base2 HO_5.out)); have HO112 := Aside0.mk (ho); clear HO_5; clear ho hb hg hat))
   go_roundg k1
   case measure => have := HK1.out; omega
   case rel => exact ⟨(y110), (wrap64 (x6_1 - 1)), (t108), (t109), (by first | rfl | (simp; done) | (simp [*]; done)), H', ⟨by have := HK1.out; omega⟩, ⟨rz HO112.out⟩, ⟨by repeat (first | (with_reducible first | exact HI0.out | apply IsS81.alloc | apply IsS81.drewN | apply IsS81.drew | apply IsS81.set_1 | apply IsS81.set_2) | exact HI0.out)⟩, ⟨by repeat (first | (with_reducible first | exact HK.out | apply ac_.set_ | apply ad_ | apply af_ | apply ae_) | exact HK.out)⟩, ⟨by repeat (first | (with_reducible first | exact HB.out | apply bA_ | apply bN_ | apply bD_ | refine ab_ ?_ (IsS81.ge HI0.out)) | exact HB.out)⟩⟩
def cG_.f  : Option ((List (List Int))) := some (([(([20, 40, 310] : List Int)), (([35, 45, 410] : List Int)), (([15, 33, 280] : List Int)), (([50, 36, 240] : List Int)), (([95, 85, 270] : List Int)), (([5, 35, 370] : List Int)), (([10, 42, 290] : List Int)), (([40, 40, 330] : List Int)), (([80, 60, 220] : List Int)), (([70, 38, 260] : List Int))] : List (List Int)))
set_option maxHeartbeats 8000000 in
set_option maxRecDepth 100000 in
theorem cG_.calls  (r : List (List Int)) (w : World) (h : cG_.f  = some r) :
  Calls Tryd.prog 111 #[] w fun e w' => ∃ v0_ : Value, e = .returned (v0_) ∧ Kd.N (Kd.slice 2 (Kd.int .i64)) 22 w' w.heap.size (fun k_ => (w.heap.size ≤ k_)) v0_ r ∧ Below w.heap.size w w' := by
 have HB := Aside0.mk (Below.refl w.heap.size w)
 have H : (some (([(([20, 40, 310] : List Int)), (([35, 45, 410] : List Int)), (([15, 33, 280] : List Int)), (([50, 36, 240] : List Int)), (([95, 85, 270] : List Int)), (([5, 35, 370] : List Int)), (([10, 42, 290] : List Int)), (([40, 40, 330] : List Int)), (([80, 60, 220] : List Int)), (([70, 38, 260] : List Int))] : List (List Int)))) = some r := h
 clear h
 obtain ⟨y101, hy101⟩ : ∃ y_ : List Int, y_ = (([20, 40, 310] : List Int)) := ⟨_, rfl⟩
 replace H : (some (([y101, (([35, 45, 410] : List Int)), (([15, 33, 280] : List Int)), (([50, 36, 240] : List Int)), (([95, 85, 270] : List Int)), (([5, 35, 370] : List Int)), (([10, 42, 290] : List Int)), (([40, 40, 330] : List Int)), (([80, 60, 220] : List Int)), (([70, 38, 260] : List Int))] : List (List Int)))) = some r := by first | (rw [hy101]; with_reducible exact H) | (have H2_ := (Option.bind_some _ _).symm.trans H; rw [hy101]; with_reducible exact H2_) | (have H2_ := (Option.bind_some _ _).symm.trans H; with_reducible exact H2_) | with_reducible exact H | (rw [hy101]; exact H) | exact H
 have Ny101 := Aside0.mk hy101
 clear hy101
 obtain ⟨y104, hy104⟩ : ∃ y_ : List Int, y_ = (([35, 45, 410] : List Int)) := ⟨_, rfl⟩
 replace H : (some (([y101, y104, (([15, 33, 280] : List Int)), (([50, 36, 240] : List Int)), (([95, 85, 270] : List Int)), (([5, 35, 370] : List Int)), (([10, 42, 290] : List Int)), (([40, 40, 330] : List Int)), (([80, 60, 220] : List Int)), (([70, 38, 260] : List Int))] : List (List Int)))) = some r := by first | (rw [hy104]; with_reducible exact H) | (have H2_ := (Option.bind_some _ _).symm.trans H; rw [hy104]; with_reducible exact H2_) | (have H2_ := (Option.bind_some _ _).symm.trans H; with_reducible exact H2_) | with_reducible exact H | (rw [hy104]; exact H) | exact H
 have Ny104 := Aside0.mk hy104
 clear hy104
 obtain ⟨y107, hy107⟩ : ∃ y_ : List Int, y_ = (([15, 33, 280] : List Int)) := ⟨_, rfl⟩
 replace H : (some (([y101, y104, y107, (([50, 36, 240] : List Int)), (([95, 85, 270] : List Int)), (([5, 35, 370] : List Int)), (([10, 42, 290] : List Int)), (([40, 40, 330] : List Int)), (([80, 60, 220] : List Int)), (([70, 38, 260] : List Int))] : List (List Int)))) = some r := by first | (rw [hy107]; with_reducible exact H) | (have H2_ := (Option.bind_some _ _).symm.trans H; rw [hy107]; with_reducible exact H2_) | (have H2_ := (Option.bind_some _ _).symm.trans H; with_reducible exact H2_) | with_reducible exact H | (rw [hy107]; exact H) | exact H
 have Ny107 := Aside0.mk hy107
 clear hy107
 obtain ⟨y110, hy110⟩ : ∃ y_ : List Int, y_ = (([50, 36, 240] : List Int)) := ⟨_, rfl⟩
 replace H : (some (([y101, y104, y107, y110, (([95, 85, 270] : List Int)), (([5, 35, 370] : List Int)), (([10, 42, 290] : List Int)), (([40, 40, 330] : List Int)), (([80, 60, 220] : List Int)), (([70, 38, 260] : List Int))] : List (List Int)))) = some r := by first | (rw [hy110]; with_reducible exact H) | (have H2_ := (Option.bind_some _ _).symm.trans H; rw [hy110]; with_reducible exact H2_) | (have H2_ := (Option.bind_some _ _).symm.trans H; with_reducible exact H2_) | with_reducible exact H | (rw [hy110]; exact H) | exact H
 have Ny110 := Aside0.mk hy110
 clear hy110
 obtain ⟨y113, hy113⟩ : ∃ y_ : List Int, y_ = (([95, 85, 270] : List Int)) := ⟨_, rfl⟩
 replace H : (some (([y101, y104, y107, y110, y113, (([5, 35, 370] : List Int)), (([10, 42, 290] : List Int)), (([40, 40, 330] : List Int)), (([80, 60, 220] : List Int)), (([70, 38, 260] : List Int))] : List (List Int)))) = some r := by first | (rw [hy113]; with_reducible exact H) | (have H2_ := (Option.bind_some _ _).symm.trans H; rw [hy113]; with_reducible exact H2_) | (have H2_ := (Option.bind_some _ _).symm.trans H; with_reducible exact H2_) | with_reducible exact H | (rw [hy113]; exact H) | exact H
 have Ny113 := Aside0.mk hy113
 clear hy113
 obtain ⟨y116, hy116⟩ : ∃ y_ : List Int, y_ = (([5, 35, 370] : List Int)) := ⟨_, rfl⟩
 replace H : (some (([y101, y104, y107, y110, y113, y116, (([10, 42, 290] : List Int)), (([40, 40, 330] : List Int)), (([80, 60, 220] : List Int)), (([70, 38, 260] : List Int))] : List (List Int)))) = some r := by first | (rw [hy116]; with_reducible exact H) | (have H2_ := (Option.bind_some _ _).symm.trans H; rw [hy116]; with_reducible exact H2_) | (have H2_ := (Option.bind_some _ _).symm.trans H; with_reducible exact H2_) | with_reducible exact H | (rw [hy116]; exact H) | exact H
 have Ny116 := Aside0.mk hy116
 clear hy116
 obtain ⟨y119, hy119⟩ : ∃ y_ : List Int, y_ = (([10, 42, 290] : List Int)) := ⟨_, rfl⟩
 replace H : (some (([y101, y104, y107, y110, y113, y116, y119, (([40, 40, 330] : List Int)), (([80, 60, 220] : List Int)), (([70, 38, 260] : List Int))] : List (List Int)))) = some r := by first | (rw [hy119]; with_reducible exact H) | (have H2_ := (Option.bind_some _ _).symm.trans H; rw [hy119]; with_reducible exact H2_) | (have H2_ := (Option.bind_some _ _).symm.trans H; with_reducible exact H2_) | with_reducible exact H | (rw [hy119]; exact H) | exact H
 have Ny119 := Aside0.mk hy119
 clear hy119
 obtain ⟨y122, hy122⟩ : ∃ y_ : List Int, y_ = (([40, 40, 330] : List Int)) := ⟨_, rfl⟩
 replace H : (some (([y101, y104, y107, y110, y113, y116, y119, y122, (([80, 60, 220] : List Int)), (([70, 38, 260] : List Int))] : List (List Int)))) = some r := by first | (rw [hy122]; with_reducible exact H) | (have H2_ := (Option.bind_some _ _).symm.trans H; rw [hy122]; with_reducible exact H2_) | (have H2_ := (Option.bind_some _ _).symm.trans H; with_reducible exact H2_) | with_reducible exact H | (rw [hy122]; exact H) | exact H
 have Ny122 := Aside0.mk hy122
 clear hy122
 obtain ⟨y125, hy125⟩ : ∃ y_ : List Int, y_ = (([80, 60, 220] : List Int)) := ⟨_, rfl⟩
 replace H : (some (([y101, y104, y107, y110, y113, y116, y119, y122, y125, (([70, 38, 260] : List Int))] : List (List Int)))) = some r := by first | (rw [hy125]; with_reducible exact H) | (have H2_ := (Option.bind_some _ _).symm.trans H; rw [hy125]; with_reducible exact H2_) | (have H2_ := (Option.bind_some _ _).symm.trans H; with_reducible exact H2_) | with_reducible exact H | (rw [hy125]; exact H) | exact H
 have Ny125 := Aside0.mk hy125
 clear hy125
 obtain ⟨y128, hy128⟩ : ∃ y_ : List Int, y_ = (([70, 38, 260] : List Int)) := ⟨_, rfl⟩
 replace H : (some (([y101, y104, y107, y110, y113, y116, y119, y122, y125, y128] : List (List Int)))) = some r := by first | (rw [hy128]; with_reducible exact H) | (have H2_ := (Option.bind_some _ _).symm.trans H; rw [hy128]; with_reducible exact H2_) | (have H2_ := (Option.bind_some _ _).symm.trans H; with_reducible exact H2_) | with_reducible exact H | (rw [hy128]; exact H) | exact H
 have Ny128 := Aside0.mk hy128
 clear hy128
 obtain ⟨y131, hy131⟩ : ∃ y_ : List (List Int), y_ = (([y101, y104, y107, y110, y113, y116, y119, y122, y125, y128] : List (List Int))) := ⟨_, rfl⟩
 replace H : (some y131) = some r := by first | (rw [hy131]; with_reducible exact H) | (have H2_ := (Option.bind_some _ _).symm.trans H; rw [hy131]; with_reducible exact H2_) | (have H2_ := (Option.bind_some _ _).symm.trans H; with_reducible exact H2_) | with_reducible exact H | (rw [hy131]; exact H) | exact H
 have Ny131 := Aside0.mk hy131
 clear hy131
 obtain rfl := Option.some.inj H
 go_enter Tryd.func111, Tryd.ntmps111
 go_wp2_with (first | ((with_reducible refine aS_ (N := 1) rfl ?_); refine Kd.R_lit (Kd.int .i64) _ 2 ?hg (N := 1) ?hd (xs := ([20, 40, 310] : List Int)) (inner := [.int .i64 20, .int .i64 40, .int .i64 310]) (ok := fun _ => True) (okp := fun _ => True) ?hr ?hp (fun _ hk => hk) trivial (Below.refl _ _) (Nat.le_refl _) (by simp) ?_; (case hd => rfl); (case hg => rfl); (case hr => (go_simp; try rfl)); (case hp => exact (Reps.one (show Kd.M (Kd.int .i64) _ _ _ 20 [.int .i64 20] from rfl) (Reps.one (show Kd.M (Kd.int .i64) _ _ _ 40 [.int .i64 40] from rfl) (Reps.one (show Kd.M (Kd.int .i64) _ _ _ 310 [.int .i64 310] from rfl) (Reps.none _ _))))); intro v102 w1 ho2 hb hg_ hnew_; clear hg_ hnew_; (first | rw [← Ny101.out] at ho2 | (simp only [Int.reduceToNat] at ho2; rw [← Ny101.out] at ho2)); have HO103 := Aside0.mk (Kd.bw_ (Kd.R_newM (M := fun k_ => (w.heap.size ≤ k_)) ho2 (ak_ (bz HB.out)) (fun k_ h_ => h_)) (ak_ (bz HB.out))); replace HB := Aside0.mk (ah_ (bz HB.out) hb); clear hb ho2) | ((with_reducible refine aS_ (N := 2) rfl ?_); refine Kd.R_lit (Kd.int .i64) _ 2 ?hg (N := 2) ?hd (xs := ([35, 45, 410] : List Int)) (inner := [.int .i64 35, .int .i64 45, .int .i64 410]) (ok := fun _ => True) (okp := fun _ => True) ?hr ?hp (fun _ hk => hk) trivial (Below.refl _ _) (Nat.le_refl _) (by simp) ?_; (case hd => rfl); (case hg => rfl); (case hr => (go_simp; try rfl)); (case hp => exact (Reps.one (show Kd.M (Kd.int .i64) _ _ _ 35 [.int .i64 35] from rfl) (Reps.one (show Kd.M (Kd.int .i64) _ _ _ 45 [.int .i64 45] from rfl) (Reps.one (show Kd.M (Kd.int .i64) _ _ _ 410 [.int .i64 410] from rfl) (Reps.none _ _))))); intro v105 w3 ho4 hb hg_ hnew_; clear hg_ hnew_; (first | rw [← Ny104.out] at ho4 | (simp only [Int.reduceToNat] at ho4; rw [← Ny104.out] at ho4)); have HO106 := Aside0.mk (Kd.bw_ (Kd.bE_ (Kd.R_newM (M := fun k_ => (w.heap.size ≤ k_)) ho4 (ak_ (bz HB.out)) (fun k_ h_ => h_)) (Kd.R_lt (rz HO103.out))) (ak_ (bz HB.out))); replace HO103 := Aside0.mk (Kd.aW_ (rz HO103.out) (Kd.bs_ ho4) hb); replace HB := Aside0.mk (ah_ (bz HB.out) hb); clear hb ho4) | ((with_reducible refine aS_ (N := 3) rfl ?_); refine Kd.R_lit (Kd.int .i64) _ 2 ?hg (N := 3) ?hd (xs := ([15, 33, 280] : List Int)) (inner := [.int .i64 15, .int .i64 33, .int .i64 280]) (ok := fun _ => True) (okp := fun _ => True) ?hr ?hp (fun _ hk => hk) trivial (Below.refl _ _) (Nat.le_refl _) (by simp) ?_; (case hd => rfl); (case hg => rfl); (case hr => (go_simp; try rfl)); (case hp => exact (Reps.one (show Kd.M (Kd.int .i64) _ _ _ 15 [.int .i64 15] from rfl) (Reps.one (show Kd.M (Kd.int .i64) _ _ _ 33 [.int .i64 33] from rfl) (Reps.one (show Kd.M (Kd.int .i64) _ _ _ 280 [.int .i64 280] from rfl) (Reps.none _ _))))); intro v108 w5 ho6 hb hg_ hnew_; clear hg_ hnew_; (first | rw [← Ny107.out] at ho6 | (simp only [Int.reduceToNat] at ho6; rw [← Ny107.out] at ho6)); have HO109 := Aside0.mk (Kd.bw_ (Kd.bE_ (Kd.bE_ (Kd.R_newM (M := fun k_ => (w.heap.size ≤ k_)) ho6 (ak_ (bz HB.out)) (fun k_ h_ => h_)) (Kd.R_lt (rz HO103.out))) (Kd.R_lt (rz HO106.out))) (ak_ (bz HB.out))); replace HO103 := Aside0.mk (Kd.aW_ (rz HO103.out) (Kd.bs_ ho6) hb); replace HO106 := Aside0.mk (Kd.aW_ (rz HO106.out) (Kd.bs_ ho6) hb); replace HB := Aside0.mk (ah_ (bz HB.out) hb); clear hb ho6) | ((with_reducible refine aS_ (N := 4) rfl ?_); refine Kd.R_lit (Kd.int .i64) _ 2 ?hg (N := 4) ?hd (xs := ([50, 36, 240] : List Int)) (inner := [.int .i64 50, .int .i64 36, .int .i64 240]) (ok := fun _ => True) (okp := fun _ => True) ?hr ?hp (fun _ hk => hk) trivial (Below.refl _ _) (Nat.le_refl _) (by simp) ?_; (case hd => rfl); (case hg => rfl); (case hr => (go_simp; try rfl)); (case hp => exact (Reps.one (show Kd.M (Kd.int .i64) _ _ _ 50 [.int .i64 50] from rfl) (Reps.one (show Kd.M (Kd.int .i64) _ _ _ 36 [.int .i64 36] from rfl) (Reps.one (show Kd.M (Kd.int .i64) _ _ _ 240 [.int .i64 240] from rfl) (Reps.none _ _))))); intro v111 w7 ho8 hb hg_ hnew_; clear hg_ hnew_; (first | rw [← Ny110.out] at ho8 | (simp only [Int.reduceToNat] at ho8; rw [← Ny110.out] at ho8)); have HO112 := Aside0.mk (Kd.bw_ (Kd.bE_ (Kd.bE_ (Kd.bE_ (Kd.R_newM (M := fun k_ => (w.heap.size ≤ k_)) ho8 (ak_ (bz HB.out)) (fun k_ h_ => h_)) (Kd.R_lt (rz HO103.out))) (Kd.R_lt (rz HO106.out))) (Kd.R_lt (rz HO109.out))) (ak_ (bz HB.out))); replace HO103 := Aside0.mk (Kd.aW_ (rz HO103.out) (Kd.bs_ ho8) hb); replace HO106 := Aside0.mk (Kd.aW_ (rz HO106.out) (Kd.bs_ ho8) hb); replace HO109 := Aside0.mk (Kd.aW_ (rz HO109.out) (Kd.bs_ ho8) hb); replace HB := Aside0.mk (ah_ (bz HB.out) hb); clear hb ho8) | ((with_reducible refine aS_ (N := 5) rfl ?_); refine Kd.R_lit (Kd.int .i64) _ 2 ?hg (N := 5) ?hd (xs := ([95, 85, 270] : List Int)) (inner := [.int .i64 95, .int .i64 85, .int .i64 270]) (ok := fun _ => True) (okp := fun _ => True) ?hr ?hp (fun _ hk => hk) trivial (Below.refl _ _) (Nat.le_refl _) (by simp) ?_; (case hd => rfl); (case hg => rfl); (case hr => (go_simp; try rfl)); (case hp => exact (Reps.one (show Kd.M (Kd.int .i64) _ _ _ 95 [.int .i64 95] from rfl) (Reps.one (show Kd.M (Kd.int .i64) _ _ _ 85 [.int .i64 85] from rfl) (Reps.one (show Kd.M (Kd.int .i64) _ _ _ 270 [.int .i64 270] from rfl) (Reps.none _ _))))); intro v114 w9 ho10 hb hg_ hnew_; clear hg_ hnew_; (first | rw [← Ny113.out] at ho10 | (simp only [Int.reduceToNat] at ho10; rw [← Ny113.out] at ho10)); have HO115 := Aside0.mk (Kd.bw_ (Kd.bE_ (Kd.bE_ (Kd.bE_ (Kd.bE_ (Kd.R_newM (M := fun k_ => (w.heap.size ≤ k_)) ho10 (ak_ (bz HB.out)) (fun k_ h_ => h_)) (Kd.R_lt (rz HO103.out))) (Kd.R_lt (rz HO106.out))) (Kd.R_lt (rz HO109.out))) (Kd.R_lt (rz HO112.out))) (ak_ (bz HB.out))); replace HO103 := Aside0.mk (Kd.aW_ (rz HO103.out) (Kd.bs_ ho10) hb); replace HO106 := Aside0.mk (Kd.aW_ (rz HO106.out) (Kd.bs_ ho10) hb); replace HO109 := Aside0.mk (Kd.aW_ (rz HO109.out) (Kd.bs_ ho10) hb); replace HO112 := Aside0.mk (Kd.aW_ (rz HO112.out) (Kd.bs_ ho10) hb); replace HB := Aside0.mk (ah_ (bz HB.out) hb); clear hb ho10) | ((with_reducible refine aS_ (N := 6) rfl ?_); refine Kd.R_lit (Kd.int .i64) _ 2 ?hg (N := 6) ?hd (xs := ([5, 35, 370] : List Int)) (inner := [.int .i64 5, .int .i64 35, .int .i64 370]) (ok := fun _ => True) (okp := fun _ => True) ?hr ?hp (fun _ hk => hk) trivial (Below.refl _ _) (Nat.le_refl _) (by simp) ?_; (case hd => rfl); (case hg => rfl); (case hr => (go_simp; try rfl)); (case hp => exact (Reps.one (show Kd.M (Kd.int .i64) _ _ _ 5 [.int .i64 5] from rfl) (Reps.one (show Kd.M (Kd.int .i64) _ _ _ 35 [.int .i64 35] from rfl) (Reps.one (show Kd.M (Kd.int .i64) _ _ _ 370 [.int .i64 370] from rfl) (Reps.none _ _))))); intro v117 w11 ho12 hb hg_ hnew_; clear hg_ hnew_; (first | rw [← Ny116.out] at ho12 | (simp only [Int.reduceToNat] at ho12; rw [← Ny116.out] at ho12)); have HO118 := Aside0.mk (Kd.bw_ (Kd.bE_ (Kd.bE_ (Kd.bE_ (Kd.bE_ (Kd.bE_ (Kd.R_newM (M := fun k_ => (w.heap.size ≤ k_)) ho12 (ak_ (bz HB.out)) (fun k_ h_ => h_)) (Kd.R_lt (rz HO103.out))) (Kd.R_lt (rz HO106.out))) (Kd.R_lt (rz HO109.out))) (Kd.R_lt (rz HO112.out))) (Kd.R_lt (rz HO115.out))) (ak_ (bz HB.out))); replace HO103 := Aside0.mk (Kd.aW_ (rz HO103.out) (Kd.bs_ ho12) hb); replace HO106 := Aside0.mk (Kd.aW_ (rz HO106.out) (Kd.bs_ ho12) hb); replace HO109 := Aside0.mk (Kd.aW_ (rz HO109.out) (Kd.bs_ ho12) hb); replace HO112 := Aside0.mk (Kd.aW_ (rz HO112.out) (Kd.bs_ ho12) hb); replace HO115 := Aside0.mk (Kd.aW_ (rz HO115.out) (Kd.bs_ ho12) hb); replace HB := Aside0.mk (ah_ (bz HB.out) hb); clear hb ho12) | ((with_reducible refine aS_ (N := 7) rfl ?_); refine Kd.R_lit (Kd.int .i64) _ 2 ?hg (N := 7) ?hd (xs := ([10, 42, 290] : List Int)) (inner := [.int .i64 10, .int .i64 42, .int .i64 290]) (ok := fun _ => True) (okp := fun _ => True) ?hr ?hp (fun _ hk => hk) trivial (Below.refl _ _) (Nat.le_refl _) (by simp) ?_; (case hd => rfl); (case hg => rfl); (case hr => (go_simp; try rfl)); (case hp => exact (Reps.one (show Kd.M (Kd.int .i64) _ _ _ 10 [.int .i64 10] from rfl) (Reps.one (show Kd.M (Kd.int .i64) _ _ _ 42 [.int .i64 42] from rfl) (Reps.one (show Kd.M (Kd.int .i64) _ _ _ 290 [.int .i64 290] from rfl) (Reps.none _ _))))); intro v120 w13 ho14 hb hg_ hnew_; clear hg_ hnew_; (first | rw [← Ny119.out] at ho14 | (simp only [Int.reduceToNat] at ho14; rw [← Ny119.out] at ho14)); have HO121 := Aside0.mk (Kd.bw_ (Kd.bE_ (Kd.bE_ (Kd.bE_ (Kd.bE_ (Kd.bE_ (Kd.bE_ (Kd.R_newM (M := fun k_ => (w.heap.size ≤ k_)) ho14 (ak_ (bz HB.out)) (fun k_ h_ => h_)) (Kd.R_lt (rz HO103.out))) (Kd.R_lt (rz HO106.out))) (Kd.R_lt (rz HO109.out))) (Kd.R_lt (rz HO112.out))) (Kd.R_lt (rz HO115.out))) (Kd.R_lt (rz HO118.out))) (ak_ (bz HB.out))); replace HO103 := Aside0.mk (Kd.aW_ (rz HO103.out) (Kd.bs_ ho14) hb); replace HO106 := Aside0.mk (Kd.aW_ (rz HO106.out) (Kd.bs_ ho14) hb); replace HO109 := Aside0.mk (Kd.aW_ (rz HO109.out) (Kd.bs_ ho14) hb); replace HO112 := Aside0.mk (Kd.aW_ (rz HO112.out) (Kd.bs_ ho14) hb); replace HO115 := Aside0.mk (Kd.aW_ (rz HO115.out) (Kd.bs_ ho14) hb); replace HO118 := Aside0.mk (Kd.aW_ (rz HO118.out) (Kd.bs_ ho14) hb); replace HB := Aside0.mk (ah_ (bz HB.out) hb); clear hb ho14) | ((with_reducible refine aS_ (N := 8) rfl ?_); refine Kd.R_lit (Kd.int .i64) _ 2 ?hg (N := 8) ?hd (xs := ([40, 40, 330] : List Int)) (inner := [.int .i64 40, .int .i64 40, .int .i64 330]) (ok := fun _ => True) (okp := fun _ => True) ?hr ?hp (fun _ hk => hk) trivial (Below.refl _ _) (Nat.le_refl _) (by simp) ?_; (case hd => rfl); (case hg => rfl); (case hr => (go_simp; try rfl)); (case hp => exact (Reps.one (show Kd.M (Kd.int .i64) _ _ _ 40 [.int .i64 40] from rfl) (Reps.one (show Kd.M (Kd.int .i64) _ _ _ 40 [.int .i64 40] from rfl) (Reps.one (show Kd.M (Kd.int .i64) _ _ _ 330 [.int .i64 330] from rfl) (Reps.none _ _))))); intro v123 w15 ho16 hb hg_ hnew_; clear hg_ hnew_; (first | rw [← Ny122.out] at ho16 | (simp only [Int.reduceToNat] at ho16; rw [← Ny122.out] at ho16)); have HO124 := Aside0.mk (Kd.bw_ (Kd.bE_ (Kd.bE_ (Kd.bE_ (Kd.bE_ (Kd.bE_ (Kd.bE_ (Kd.bE_ (Kd.R_newM (M := fun k_ => (w.heap.size ≤ k_)) ho16 (ak_ (bz HB.out)) (fun k_ h_ => h_)) (Kd.R_lt (rz HO103.out))) (Kd.R_lt (rz HO106.out))) (Kd.R_lt (rz HO109.out))) (Kd.R_lt (rz HO112.out))) (Kd.R_lt (rz HO115.out))) (Kd.R_lt (rz HO118.out))) (Kd.R_lt (rz HO121.out))) (ak_ (bz HB.out))); replace HO103 := Aside0.mk (Kd.aW_ (rz HO103.out) (Kd.bs_ ho16) hb); replace HO106 := Aside0.mk (Kd.aW_ (rz HO106.out) (Kd.bs_ ho16) hb); replace HO109 := Aside0.mk (Kd.aW_ (rz HO109.out) (Kd.bs_ ho16) hb); replace HO112 := Aside0.mk (Kd.aW_ (rz HO112.out) (Kd.bs_ ho16) hb); replace HO115 := Aside0.mk (Kd.aW_ (rz HO115.out) (Kd.bs_ ho16) hb); replace HO118 := Aside0.mk (Kd.aW_ (rz HO118.out) (Kd.bs_ ho16) hb); replace HO121 := Aside0.mk (Kd.aW_ (rz HO121.out) (Kd.bs_ ho16) hb); replace HB := Aside0.mk (ah_ (bz HB.out) hb); clear hb ho16) | ((with_reducible refine aS_ (N := 9) rfl ?_); refine Kd.R_lit (Kd.int .i64) _ 2 ?hg (N := 9) ?hd (xs := ([80, 60, 220] : List Int)) (inner := [.int .i64 80, .int .i64 60, .int .i64 220]) (ok := fun _ => True) (okp := fun _ => True) ?hr ?hp (fun _ hk => hk) trivial (Below.refl _ _) (Nat.le_refl _) (by simp) ?_; (case hd => rfl); (case hg => rfl); (case hr => (go_simp; try rfl)); (case hp => exact (Reps.one (show Kd.M (Kd.int .i64) _ _ _ 80 [.int .i64 80] from rfl) (Reps.one (show Kd.M (Kd.int .i64) _ _ _ 60 [.int .i64 60] from rfl) (Reps.one (show Kd.M (Kd.int .i64) _ _ _ 220 [.int .i64 220] from rfl) (Reps.none _ _))))); intro v126 w17 ho18 hb hg_ hnew_; clear hg_ hnew_; (first | rw [← Ny125.out] at ho18 | (simp only [Int.reduceToNat] at ho18; rw [← Ny125.out] at ho18)); have HO127 := Aside0.mk (Kd.bw_ (Kd.bE_ (Kd.bE_ (Kd.bE_ (Kd.bE_ (Kd.bE_ (Kd.bE_ (Kd.bE_ (Kd.bE_ (Kd.R_newM (M := fun k_ => (w.heap.size ≤ k_)) ho18 (ak_ (bz HB.out)) (fun k_ h_ => h_)) (Kd.R_lt (rz HO103.out))) (Kd.R_lt (rz HO106.out))) (Kd.R_lt (rz HO109.out))) (Kd.R_lt (rz HO112.out))) (Kd.R_lt (rz HO115.out))) (Kd.R_lt (rz HO118.out))) (Kd.R_lt (rz HO121.out))) (Kd.R_lt (rz HO124.out))) (ak_ (bz HB.out))); replace HO103 := Aside0.mk (Kd.aW_ (rz HO103.out) (Kd.bs_ ho18) hb); replace HO106 := Aside0.mk (Kd.aW_ (rz HO106.out) (Kd.bs_ ho18) hb); replace HO109 := Aside0.mk (Kd.aW_ (rz HO109.out) (Kd.bs_ ho18) hb); replace HO112 := Aside0.mk (Kd.aW_ (rz HO112.out) (Kd.bs_ ho18) hb); replace HO115 := Aside0.mk (Kd.aW_ (rz HO115.out) (Kd.bs_ ho18) hb); replace HO118 := Aside0.mk (Kd.aW_ (rz HO118.out) (Kd.bs_ ho18) hb); replace HO121 := Aside0.mk (Kd.aW_ (rz HO121.out) (Kd.bs_ ho18) hb); replace HO124 := Aside0.mk (Kd.aW_ (rz HO124.out) (Kd.bs_ ho18) hb); replace HB := Aside0.mk (ah_ (bz HB.out) hb); clear hb ho18) | ((with_reducible refine aS_ (N := 10) rfl ?_); refine Kd.R_lit (Kd.int .i64) _ 2 ?hg (N := 10) ?hd (xs := ([70, 38, 260] : List Int)) (inner := [.int .i64 70, .int .i64 38, .int .i64 260]) (ok := fun _ => True) (okp := fun _ => True) ?hr ?hp (fun _ hk => hk) trivial (Below.refl _ _) (Nat.le_refl _) (by simp) ?_; (case hd => rfl); (case hg => rfl); (case hr => (go_simp; try rfl)); (case hp => exact (Reps.one (show Kd.M (Kd.int .i64) _ _ _ 70 [.int .i64 70] from rfl) (Reps.one (show Kd.M (Kd.int .i64) _ _ _ 38 [.int .i64 38] from rfl) (Reps.one (show Kd.M (Kd.int .i64) _ _ _ 260 [.int .i64 260] from rfl) (Reps.none _ _))))); intro v129 w19 ho20 hb hg_ hnew_; clear hg_ hnew_; (first | rw [← Ny128.out] at ho20 | (simp only [Int.reduceToNat] at ho20; rw [← Ny128.out] at ho20)); have HO130 := Aside0.mk (Kd.bw_ (Kd.bE_ (Kd.bE_ (Kd.bE_ (Kd.bE_ (Kd.bE_ (Kd.bE_ (Kd.bE_ (Kd.bE_ (Kd.bE_ (Kd.R_newM (M := fun k_ => (w.heap.size ≤ k_)) ho20 (ak_ (bz HB.out)) (fun k_ h_ => h_)) (Kd.R_lt (rz HO103.out))) (Kd.R_lt (rz HO106.out))) (Kd.R_lt (rz HO109.out))) (Kd.R_lt (rz HO112.out))) (Kd.R_lt (rz HO115.out))) (Kd.R_lt (rz HO118.out))) (Kd.R_lt (rz HO121.out))) (Kd.R_lt (rz HO124.out))) (Kd.R_lt (rz HO127.out))) (ak_ (bz HB.out))); replace HO103 := Aside0.mk (Kd.aW_ (rz HO103.out) (Kd.bs_ ho20) hb); replace HO106 := Aside0.mk (Kd.aW_ (rz HO106.out) (Kd.bs_ ho20) hb); replace HO109 := Aside0.mk (Kd.aW_ (rz HO109.out) (Kd.bs_ ho20) hb); replace HO112 := Aside0.mk (Kd.aW_ (rz HO112.out) (Kd.bs_ ho20) hb); replace HO115 := Aside0.mk (Kd.aW_ (rz HO115.out) (Kd.bs_ ho20) hb); replace HO118 := Aside0.mk (Kd.aW_ (rz HO118.out) (Kd.bs_ ho20) hb); replace HO121 := Aside0.mk (Kd.aW_ (rz HO121.out) (Kd.bs_ ho20) hb); replace HO124 := Aside0.mk (Kd.aW_ (rz HO124.out) (Kd.bs_ ho20) hb); replace HO127 := Aside0.mk (Kd.aW_ (rz HO127.out) (Kd.bs_ ho20) hb); replace HB := Aside0.mk (ah_ (bz HB.out) hb); clear hb ho20; obtain ⟨Ao21, co21, eo21⟩ := Kd.bL_ HO103.out; subst eo21; obtain ⟨Ao22, co22, eo22⟩ := Kd.bL_ HO106.out; subst eo22; obtain ⟨Ao23, co23, eo23⟩ := Kd.bL_ HO109.out; subst eo23; obtain ⟨Ao24, co24, eo24⟩ := Kd.bL_ HO112.out; subst eo24; obtain ⟨Ao25, co25, eo25⟩ := Kd.bL_ HO115.out; subst eo25; obtain ⟨Ao26, co26, eo26⟩ := Kd.bL_ HO118.out; subst eo26; obtain ⟨Ao27, co27, eo27⟩ := Kd.bL_ HO121.out; subst eo27; obtain ⟨Ao28, co28, eo28⟩ := Kd.bL_ HO124.out; subst eo28; obtain ⟨Ao29, co29, eo29⟩ := Kd.bL_ HO127.out; subst eo29; obtain ⟨Ao30, co30, eo30⟩ := Kd.bL_ HO130.out; subst eo30) | ((with_reducible refine aS_ (N := 11) rfl ?_); refine Kd.N_lit (Kd.slice 2 (Kd.int .i64)) _ 22 ?hg (N' := 11) ?hd (xs := ([y101, y104, y107, y110, y113, y116, y119, y122, y125, y128] : List (List Int))) (inner := [.slice Ao21 y101.length co21, .slice Ao22 y104.length co22, .slice Ao23 y107.length co23, .slice Ao24 y110.length co24, .slice Ao25 y113.length co25, .slice Ao26 y116.length co26, .slice Ao27 y119.length co27, .slice Ao28 y122.length co28, .slice Ao29 y125.length co29, .slice Ao30 y128.length co30]) (ok := (fun k_ => (w.heap.size ≤ k_))) (okp := (fun k_ => (w.heap.size ≤ k_))) ?hr ?hp (fun _ hk => hk) ((show ∀ k_, w19.heap.size ≤ k_ → (fun k_ => (w.heap.size ≤ k_)) k_ from fun k_ hk => (Nat.le_trans (ak_ (bz HB.out)) hk)) _ (Nat.le_refl _)) (Below.refl _ _) (Nat.le_refl _) (by simp) ?_; (case hd => rfl); (case hg => rfl); (case hr => (go_simp; try rfl)); (case hp => exact (Reps.one (show Kd.FK (Kd.slice 2 (Kd.int .i64)) _ _ y101 [.slice Ao21 y101.length co21] from (Kd.cq_ (Kd.aE_ (Kd.aG_ (ok' := (fun k_ => (w.heap.size ≤ k_))) (HO103.out) (fun k_ hk => hk.1.1.1.1.1.1.1.1.1.1))).2.1 (Kd.R_F (Kd.aG_ (ok' := (fun k_ => (w.heap.size ≤ k_))) (HO103.out) (fun k_ hk => hk.1.1.1.1.1.1.1.1.1.1))))) (Reps.one (show Kd.FK (Kd.slice 2 (Kd.int .i64)) _ _ y104 [.slice Ao22 y104.length co22] from (Kd.cq_ (Kd.aE_ (Kd.aG_ (ok' := (fun k_ => (w.heap.size ≤ k_))) (HO106.out) (fun k_ hk => hk.1.1.1.1.1.1.1.1.1.1))).2.1 (Kd.R_F (Kd.aG_ (ok' := (fun k_ => (w.heap.size ≤ k_))) (HO106.out) (fun k_ hk => hk.1.1.1.1.1.1.1.1.1.1))))) (Reps.one (show Kd.FK (Kd.slice 2 (Kd.int .i64)) _ _ y107 [.slice Ao23 y107.length co23] from (Kd.cq_ (Kd.aE_ (Kd.aG_ (ok' := (fun k_ => (w.heap.size ≤ k_))) (HO109.out) (fun k_ hk => hk.1.1.1.1.1.1.1.1.1.1))).2.1 (Kd.R_F (Kd.aG_ (ok' := (fun k_ => (w.heap.size ≤ k_))) (HO109.out) (fun k_ hk => hk.1.1.1.1.1.1.1.1.1.1))))) (Reps.one (show Kd.FK (Kd.slice 2 (Kd.int .i64)) _ _ y110 [.slice Ao24 y110.length co24] from (Kd.cq_ (Kd.aE_ (Kd.aG_ (ok' := (fun k_ => (w.heap.size ≤ k_))) (HO112.out) (fun k_ hk => hk.1.1.1.1.1.1.1.1.1.1))).2.1 (Kd.R_F (Kd.aG_ (ok' := (fun k_ => (w.heap.size ≤ k_))) (HO112.out) (fun k_ hk => hk.1.1.1.1.1.1.1.1.1.1))))) (Reps.one (show Kd.FK (Kd.slice 2 (Kd.int .i64)) _ _ y113 [.slice Ao25 y113.length co25] from (Kd.cq_ (Kd.aE_ (Kd.aG_ (ok' := (fun k_ => (w.heap.size ≤ k_))) (HO115.out) (fun k_ hk => hk.1.1.1.1.1.1.1.1.1.1))).2.1 (Kd.R_F (Kd.aG_ (ok' := (fun k_ => (w.heap.size ≤ k_))) (HO115.out) (fun k_ hk => hk.1.1.1.1.1.1.1.1.1.1))))) (Reps.one (show Kd.FK (Kd.slice 2 (Kd.int .i64)) _ _ y116 [.slice Ao26 y116.length co26] from (Kd.cq_ (Kd.aE_ (Kd.aG_ (ok' := (fun k_ => (w.heap.size ≤ k_))) (HO118.out) (fun k_ hk => hk.1.1.1.1.1.1.1.1.1.1))).2.1 (Kd.R_F (Kd.aG_ (ok' := (fun k_ => (w.heap.size ≤ k_))) (HO118.out) (fun k_ hk => hk.1.1.1.1.1.1.1.1.1.1))))) (Reps.one (show Kd.FK (Kd.slice 2 (Kd.int .i64)) _ _ y119 [.slice Ao27 y119.length co27] from (Kd.cq_ (Kd.aE_ (Kd.aG_ (ok' := (fun k_ => (w.heap.size ≤ k_))) (HO121.out) (fun k_ hk => hk.1.1.1.1.1.1.1.1.1.1))).2.1 (Kd.R_F (Kd.aG_ (ok' := (fun k_ => (w.heap.size ≤ k_))) (HO121.out) (fun k_ hk => hk.1.1.1.1.1.1.1.1.1.1))))) (Reps.one (show Kd.FK (Kd.slice 2 (Kd.int .i64)) _ _ y122 [.slice Ao28 y122.length co28] from (Kd.cq_ (Kd.aE_ (Kd.aG_ (ok' := (fun k_ => (w.heap.size ≤ k_))) (HO124.out) (fun k_ hk => hk.1.1.1.1.1.1.1.1.1.1))).2.1 (Kd.R_F (Kd.aG_ (ok' := (fun k_ => (w.heap.size ≤ k_))) (HO124.out) (fun k_ hk => hk.1.1.1.1.1.1.1.1.1.1))))) (Reps.one (show Kd.FK (Kd.slice 2 (Kd.int .i64)) _ _ y125 [.slice Ao29 y125.length co29] from (Kd.cq_ (Kd.aE_ (Kd.aG_ (ok' := (fun k_ => (w.heap.size ≤ k_))) (HO127.out) (fun k_ hk => hk.1.1.1.1.1.1.1.1.1.1))).2.1 (Kd.R_F (Kd.aG_ (ok' := (fun k_ => (w.heap.size ≤ k_))) (HO127.out) (fun k_ hk => hk.1.1.1.1.1.1.1.1.1.1))))) (Reps.one (show Kd.FK (Kd.slice 2 (Kd.int .i64)) _ _ y128 [.slice Ao30 y128.length co30] from (Kd.cq_ (Kd.aE_ (Kd.aG_ (ok' := (fun k_ => (w.heap.size ≤ k_))) (HO130.out) (fun k_ hk => hk.1.1.1.1.1.1.1.1.1.1))).2.1 (Kd.R_F (Kd.aG_ (ok' := (fun k_ => (w.heap.size ≤ k_))) (HO130.out) (fun k_ hk => hk.1.1.1.1.1.1.1.1.1.1))))) (Reps.none _ _)))))))))))); intro v132 w31 ho32 hb hg_ hnew_; clear hg_ hnew_; (first | rw [← Ny131.out] at ho32 | (simp only [Int.reduceToNat] at ho32; rw [← Ny131.out] at ho32)); have HO133 := Aside0.mk (Kd.N_lower ho32 (ak_ (bz HB.out))); replace HB := Aside0.mk (ah_ (bz HB.out) hb); clear HO103; clear HO106; clear HO109; clear HO112; clear HO115; clear HO118; clear HO121; clear HO124; clear HO127; clear HO130; clear hb ho32))
 go_ret
 exact ⟨_, by first | rfl | (simp [*, aw_, av_] <;> rfl), nz HO133.out, bz HB.out⟩
def cn_.f  : Option (List ByteArray) := some (([(⟨#[97, 115, 104]⟩ : ByteArray), (⟨#[98, 101, 101, 99, 104]⟩ : ByteArray), (⟨#[98, 105, 114, 99, 104]⟩ : ByteArray), (⟨#[99, 104, 101, 114, 114, 121]⟩ : ByteArray), (⟨#[101, 98, 111, 110, 121]⟩ : ByteArray), (⟨#[104, 111, 108, 108, 121]⟩ : ByteArray), (⟨#[109, 97, 112, 108, 101]⟩ : ByteArray), (⟨#[111, 97, 107]⟩ : ByteArray), (⟨#[114, 111, 115, 101, 119, 111, 111, 100]⟩ : ByteArray), (⟨#[119, 97, 108, 110, 117, 116]⟩ : ByteArray)] : List ByteArray))
set_option maxHeartbeats 8000000 in
set_option maxRecDepth 100000 in
theorem cn_.calls  (r : List ByteArray) (w : World) (h : cn_.f  = some r) :
  Calls Tryd.prog 112 #[] w fun e w' => ∃ v0_ : Value, e = .returned (v0_) ∧ Kd.R Kd.string 9 w' w.heap.size (fun _ => True) v0_ r ∧ Below w.heap.size w w' := by
 have HB := Aside0.mk (Below.refl w.heap.size w)
 have H : (some (([(⟨#[97, 115, 104]⟩ : ByteArray), (⟨#[98, 101, 101, 99, 104]⟩ : ByteArray), (⟨#[98, 105, 114, 99, 104]⟩ : ByteArray), (⟨#[99, 104, 101, 114, 114, 121]⟩ : ByteArray), (⟨#[101, 98, 111, 110, 121]⟩ : ByteArray), (⟨#[104, 111, 108, 108, 121]⟩ : ByteArray), (⟨#[109, 97, 112, 108, 101]⟩ : ByteArray), (⟨#[111, 97, 107]⟩ : ByteArray), (⟨#[114, 111, 115, 101, 119, 111, 111, 100]⟩ : ByteArray), (⟨#[119, 97, 108, 110, 117, 116]⟩ : ByteArray)] : List ByteArray))) = some r := h
 clear h
 obtain ⟨y101, hy101⟩ : ∃ y_ : List ByteArray, y_ = (([(⟨#[97, 115, 104]⟩ : ByteArray), (⟨#[98, 101, 101, 99, 104]⟩ : ByteArray), (⟨#[98, 105, 114, 99, 104]⟩ : ByteArray), (⟨#[99, 104, 101, 114, 114, 121]⟩ : ByteArray), (⟨#[101, 98, 111, 110, 121]⟩ : ByteArray), (⟨#[104, 111, 108, 108, 121]⟩ : ByteArray), (⟨#[109, 97, 112, 108, 101]⟩ : ByteArray), (⟨#[111, 97, 107]⟩ : ByteArray), (⟨#[114, 111, 115, 101, 119, 111, 111, 100]⟩ : ByteArray), (⟨#[119, 97, 108, 110, 117, 116]⟩ : ByteArray)] : List ByteArray)) := ⟨_, rfl⟩
 replace H : (some y101) = some r := by first | (rw [hy101]; with_reducible exact H) | (have H2_ := (Option.bind_some _ _).symm.trans H; rw [hy101]; with_reducible exact H2_) | (have H2_ := (Option.bind_some _ _).symm.trans H; with_reducible exact H2_) | with_reducible exact H | (rw [hy101]; exact H) | exact H
 have Ny101 := Aside0.mk hy101
 clear hy101
 obtain rfl := Option.some.inj H
 go_enter Tryd.func112, Tryd.ntmps112
 go_wp2_with (first | ((with_reducible refine aS_ (N := 1) rfl ?_); refine Kd.R_lit Kd.string _ 9 ?hg (N := 1) ?hd (xs := ([(⟨#[97, 115, 104]⟩ : ByteArray), (⟨#[98, 101, 101, 99, 104]⟩ : ByteArray), (⟨#[98, 105, 114, 99, 104]⟩ : ByteArray), (⟨#[99, 104, 101, 114, 114, 121]⟩ : ByteArray), (⟨#[101, 98, 111, 110, 121]⟩ : ByteArray), (⟨#[104, 111, 108, 108, 121]⟩ : ByteArray), (⟨#[109, 97, 112, 108, 101]⟩ : ByteArray), (⟨#[111, 97, 107]⟩ : ByteArray), (⟨#[114, 111, 115, 101, 119, 111, 111, 100]⟩ : ByteArray), (⟨#[119, 97, 108, 110, 117, 116]⟩ : ByteArray)] : List ByteArray)) (inner := [.string (⟨#[97, 115, 104]⟩ : ByteArray), .string (⟨#[98, 101, 101, 99, 104]⟩ : ByteArray), .string (⟨#[98, 105, 114, 99, 104]⟩ : ByteArray), .string (⟨#[99, 104, 101, 114, 114, 121]⟩ : ByteArray), .string (⟨#[101, 98, 111, 110, 121]⟩ : ByteArray), .string (⟨#[104, 111, 108, 108, 121]⟩ : ByteArray), .string (⟨#[109, 97, 112, 108, 101]⟩ : ByteArray), .string (⟨#[111, 97, 107]⟩ : ByteArray), .string (⟨#[114, 111, 115, 101, 119, 111, 111, 100]⟩ : ByteArray), .string (⟨#[119, 97, 108, 110, 117, 116]⟩ : ByteArray)]) (ok := fun _ => True) (okp := fun _ => True) ?hr ?hp (fun _ hk => hk) trivial (Below.refl _ _) (Nat.le_refl _) (by simp) ?_; (case hd => rfl); (case hg => rfl); (case hr => (go_simp; try rfl)); (case hp => exact (Reps.one (show Kd.M Kd.string _ _ _ (⟨#[97, 115, 104]⟩ : ByteArray) [.string (⟨#[97, 115, 104]⟩ : ByteArray)] from rfl) (Reps.one (show Kd.M Kd.string _ _ _ (⟨#[98, 101, 101, 99, 104]⟩ : ByteArray) [.string (⟨#[98, 101, 101, 99, 104]⟩ : ByteArray)] from rfl) (Reps.one (show Kd.M Kd.string _ _ _ (⟨#[98, 105, 114, 99, 104]⟩ : ByteArray) [.string (⟨#[98, 105, 114, 99, 104]⟩ : ByteArray)] from rfl) (Reps.one (show Kd.M Kd.string _ _ _ (⟨#[99, 104, 101, 114, 114, 121]⟩ : ByteArray) [.string (⟨#[99, 104, 101, 114, 114, 121]⟩ : ByteArray)] from rfl) (Reps.one (show Kd.M Kd.string _ _ _ (⟨#[101, 98, 111, 110, 121]⟩ : ByteArray) [.string (⟨#[101, 98, 111, 110, 121]⟩ : ByteArray)] from rfl) (Reps.one (show Kd.M Kd.string _ _ _ (⟨#[104, 111, 108, 108, 121]⟩ : ByteArray) [.string (⟨#[104, 111, 108, 108, 121]⟩ : ByteArray)] from rfl) (Reps.one (show Kd.M Kd.string _ _ _ (⟨#[109, 97, 112, 108, 101]⟩ : ByteArray) [.string (⟨#[109, 97, 112, 108, 101]⟩ : ByteArray)] from rfl) (Reps.one (show Kd.M Kd.string _ _ _ (⟨#[111, 97, 107]⟩ : ByteArray) [.string (⟨#[111, 97, 107]⟩ : ByteArray)] from rfl) (Reps.one (show Kd.M Kd.string _ _ _ (⟨#[114, 111, 115, 101, 119, 111, 111, 100]⟩ : ByteArray) [.string (⟨#[114, 111, 115, 101, 119, 111, 111, 100]⟩ : ByteArray)] from rfl) (Reps.one (show Kd.M Kd.string _ _ _ (⟨#[119, 97, 108, 110, 117, 116]⟩ : ByteArray) [.string (⟨#[119, 97, 108, 110, 117, 116]⟩ : ByteArray)] from rfl) (Reps.none _ _)))))))))))); intro v102 w1 ho2 hb hg_ hnew_; clear hg_ hnew_; (first | rw [← Ny101.out] at ho2 | (simp only [Int.reduceToNat] at ho2; rw [← Ny101.out] at ho2)); have HO103 := Aside0.mk (Kd.bw_ ho2 (ak_ (bz HB.out))); replace HB := Aside0.mk (ah_ (bz HB.out) hb); clear hb ho2))
 go_ret
 exact ⟨_, by first | rfl | (simp [*, aw_, av_] <;> rfl), rz HO103.out, bz HB.out⟩
def bS_.f (a0 : Int) (a1 : Int) : Option (Int) := if a0 < a1 then (some a0) else (some a1)
set_option maxHeartbeats 8000000 in
set_option maxRecDepth 100000 in
theorem bS_.calls (a0 : Int) (a1 : Int) (r : Int) (w : World) (h : bS_.f a0 a1 = some r) :
  Calls Tryd.prog 113 #[.int .i64 a0, .int .i64 a1] w fun e w' => e = .returned (.int .i64 r) ∧ an_ w w' := by
 have H : (if a0 < a1 then (some a0) else (some a1)) = some r := h
 clear h
 by_cases c3 : a0 < a1
 rotate_left
 ·rw [if_neg c3] at H
  have c3b0 : decide (a0 < a1) = false := decide_eq_false c3
  clear c3
  obtain rfl := Option.some.inj H
  go_enter Tryd.func113, Tryd.ntmps113
  go_wp2
  go_ret
  exact ⟨by first | rfl | (simp; done) | (simp [*]; done), by repeat (first | exact an_.refl _ | apply an_.step)⟩
 rw [if_pos c3] at H
 have c3b0 : decide (a0 < a1) = true := decide_eq_true c3
 clear c3
 obtain rfl := Option.some.inj H
 go_enter Tryd.func113, Tryd.ntmps113
 go_wp2
 go_ret
 exact ⟨by first | rfl | (simp; done) | (simp [*]; done), by repeat (first | exact an_.refl _ | apply an_.step)⟩
def cr_.f (a0 : Int) (a1 : Int) : Option (Int) := if a0 > a1 then (some a0) else (some a1)
set_option maxHeartbeats 8000000 in
set_option maxRecDepth 100000 in
theorem cr_.calls (a0 : Int) (a1 : Int) (r : Int) (w : World) (h : cr_.f a0 a1 = some r) :
  Calls Tryd.prog 114 #[.int .i64 a0, .int .i64 a1] w fun e w' => e = .returned (.int .i64 r) ∧ an_ w w' := by
 have H : (if a0 > a1 then (some a0) else (some a1)) = some r := h
 clear h
 by_cases c3 : a0 > a1
 rotate_left
 ·rw [if_neg c3] at H
  have c3b0 : decide (a1 < a0) = false := decide_eq_false c3
  clear c3
  obtain rfl := Option.some.inj H
  go_enter Tryd.func114, Tryd.ntmps114
  go_wp2
  go_ret
  exact ⟨by first | rfl | (simp; done) | (simp [*]; done), by repeat (first | exact an_.refl _ | apply an_.step)⟩
 rw [if_pos c3] at H
 have c3b0 : decide (a1 < a0) = true := decide_eq_true c3
 clear c3
 obtain rfl := Option.some.inj H
 go_enter Tryd.func114, Tryd.ntmps114
 go_wp2
 go_ret
 exact ⟨by first | rfl | (simp; done) | (simp [*]; done), by repeat (first | exact an_.refl _ | apply an_.step)⟩
def bU_.f (s0_0 : List Int) (s0_1 : Int) (s0_2 : Int) (l1 : List Int) : Option (Int × Int × Int) := (aj_.f s0_0 s0_1 s0_2 (l1.length : Int)).bind fun bt101 => (if 0 ≤ bt101.1 then (if bt101.1 < (l1.length : Int) then (some (rd l1 bt101.1, bt101.2.1, bt101.2.2)) else (none)) else (none))
set_option maxHeartbeats 8000000 in
set_option maxRecDepth 100000 in
theorem bU_.calls (g : Nat) (s0_0 : List Int) (s0_1 : Int) (s0_2 : Int) (A1 : Option Addr) (c1 : Nat) (l1 : List Int) (r1 : Int) (r2 : Int) (r3 : Int) (w0 w : World) (hI : IsS81 w0 w g s0_0 s0_1 s0_2) (hB : Below w0.heap.size w0 w) (hr1 : Kd.C (Kd.int .i64) w A1 l1.length l1) (hc1 : l1.length ≤ c1) (hf1 : ∀ ad, A1 = some ad → 0 < l1.length → ad.block ≠ g) (h : bU_.f s0_0 s0_1 s0_2 l1 = some (r1, r2, r3)) :
  Calls Tryd.prog 115 #[.pointer (some ⟨g, 0, none⟩), .slice A1 l1.length c1] w fun e w' => e = .returned (.int .i64 r1) ∧ IsS81 w0 w' g s0_0 r2 r3 ∧ Below w0.heap.size w0 w' ∧ ac_ w w' g none := by
 have HR1 := Aside0.mk hr1
 have HC1 := Aside0.mk hc1
 clear hr1 hc1
 have HI0 := Aside0.mk hI
 have HK := Aside0.mk (ac_.refl w g none)
 have HL := Aside0.mk hB.size
 clear hI
 have HW0 := Aside0.mk hB.size
 have HB := Aside0.mk hB
 clear hB
 have H : ((aj_.f s0_0 s0_1 s0_2 (l1.length : Int)).bind fun bt101 => (if 0 ≤ bt101.1 then (if bt101.1 < (l1.length : Int) then (some (rd l1 bt101.1, bt101.2.1, bt101.2.2)) else (none)) else (none))) = some (r1, r2, r3) := h
 clear h
 replace H := Option.bind_eq_some_iff.mp H
 obtain ⟨⟨t101, t102, t103⟩, A30, H⟩ := H
 (try dsimp only at H)
 have A3 := Aside0.mk A30
 clear A30
 by_cases c4 : 0 ≤ t101
 rotate_left
 ·rw [if_neg c4] at H
  exact absurd H (by simp)
 rw [if_pos c4] at H
 have c4b0 : decide (0 ≤ t101) = true := decide_eq_true c4
 clear c4
 by_cases c5 : t101 < (l1.length : Int)
 rotate_left
 ·rw [if_neg c5] at H
  exact absurd H (by simp)
 rw [if_pos c5] at H
 have c5b0 : decide (t101 < (l1.length : Int)) = true := decide_eq_true c5
 clear c5
 simp only [Option.some.injEq, Prod.mk.injEq] at H
 obtain ⟨rfl, rfl, rfl⟩ := H
 go_enter Tryd.func115, Tryd.ntmps115
 go_wp2_with (first | ((with_reducible refine al_ (f := 65) rfl ?_); refine bf_ (some 9) rfl rfl Tryd.func65 (by kernel_rfl) rfl #[.pointer (some ⟨g, 0, none⟩), .int .i64 (l1.length : Int)] rfl (by first | rfl | (simp only [lma_, lmc_, lmn_]; first | done | rfl)) ?_; (with_reducible refine (aj_.calls g s0_0 s0_1 s0_2 (l1.length : Int) t101 t102 t103 w0 _ ?side1 ?side2 A3.out).mono ?_); (case side1 => repeat (first | (with_reducible first | exact HI0.out | apply IsS81.alloc | apply IsS81.drewN | apply IsS81.drew | apply IsS81.set_1 | apply IsS81.set_2) | exact HI0.out)); (case side2 => repeat (first | (with_reducible first | exact HB.out | apply bA_ | apply bN_ | apply bD_ | refine ab_ ?_ (IsS81.ge HI0.out)) | exact HB.out)); rintro e w6 ⟨rfl, hi, hb, hk⟩; refine ⟨_, rfl, ?_⟩; replace HK := Aside0.mk (ac_.trans (by repeat (first | (with_reducible first | exact HK.out | apply ac_.set_ | apply ad_ | apply af_ | apply ae_) | exact HK.out)) hk (.inl rfl)); replace HB := Aside0.mk (hb); replace HI0 := Aside0.mk (hi); (try clear hb); have p104 : 0 ≤ (t101 : Int) := of_decide_eq_true (by assumption); have q104 : t101 < (l1.length : Int) := of_decide_eq_true (by assumption); obtain ⟨ad104, e104, hx104_0⟩ := Kd.at_int HR1.out t101 p104 q104; cases e104; replace hx104_0 := keep_cell HK.out hx104_0 (by first | (rw [add_block]; exact hf1 _ rfl (by omega)) | exact hf1 _ rfl (by omega) | exact hf1 ad104 rfl (by omega)); replace p104 := eq_true p104; replace q104 := eq_true q104))
 go_ret
 exact ⟨by first | rfl | (simp [*, aw_, av_] <;> rfl), by repeat (first | (with_reducible first | exact HI0.out | apply IsS81.alloc | apply IsS81.drewN | apply IsS81.drew | apply IsS81.set_1 | apply IsS81.set_2) | exact HI0.out), by repeat (first | (with_reducible first | exact HB.out | apply bA_ | apply bN_ | apply bD_ | refine ab_ ?_ (IsS81.ge HI0.out)) | exact HB.out), by repeat (first | (with_reducible first | exact HK.out | apply ac_.set_ | apply ad_ | apply af_ | apply ae_) | exact HK.out)⟩
end Go.Proofs.YtjebkmfljcanlaaDoor.Q
