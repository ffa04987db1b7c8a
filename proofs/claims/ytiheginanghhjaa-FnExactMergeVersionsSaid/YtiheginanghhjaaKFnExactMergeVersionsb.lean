/- For all arguments that the law's sizes let in, the program's MergeVersions gives what the reference gives. This text holds the functions' walks and the words for them. -/
import Derived.Test.YtiheginanghhjaaKFnExactMergeVersionsa
set_option linter.unusedVariables false
set_option linter.unusedSimpArgs false
namespace Go.Proofs.Ytiheginanghhjaa.Q
open Go.RowKit Go.Proofs.YtiheginanghhjaaW.PrintWords Go.Proofs.YtiheginanghhjaaW.PrintLast Go.Proofs.YtiheginanghhjaaW.PrintMore
attribute [local go_sem] aN_ aL_ bi_ bh_ aA_ az_ aO_ aM_
mutual
def aR_.l0 : Nat → List (S63) → List (S63) → Bool → Int → ByteArray → ByteArray → Int → Int → Option ((List (S63)))
 | 0, _, _, _, _, _, _, _, _ => none
 | k + 1, x0, x5, x6, x7, x102000, x102001, x102002, x102003 => if x7 < (x0.length : Int) then (if x6 = true then (aR_.j1 k x0 x5 x6 x7 false x102000 x102001 x102002 x102003) else (if 0 ≤ x7 then (aR_.j1 k x0 x5 x6 x7 (!(Op.bytesLess (((af_ x0 x7).f0).toList) x102000.toList)) x102000 x102001 x102002 x102003) else (none))) else (if x6 = true then (some x5) else (if x5.length < 2932031007402 then (some (x5 ++ [(⟨x102000, (⟨x102001, x102002, x102003⟩ : S61)⟩ : S63)])) else (none)))
def aR_.j1 : Nat → List (S63) → List (S63) → Bool → Int → Bool → ByteArray → ByteArray → Int → Int → Option ((List (S63)))
 | 0, _, _, _, _, _, _, _, _, _ => none
 | k + 1, x0, x5, x6, x7, x26, x102000, x102001, x102002, x102003 => if x26 = true then (if x5.length < 2932031007402 then ((some (x5 ++ [(⟨x102000, (⟨x102001, x102002, x102003⟩ : S61)⟩ : S63)] : List (S63))).bind fun y109 => (if 0 ≤ x7 then (if x7 < (x0.length : Int) then (if ((af_ x0 x7).f0).toList = x102000.toList then (aR_.l0 k x0 y109 true (wrap64 (x7 + 1)) x102000 x102001 x102002 x102003) else (if y109.length < 2932031007402 then (aR_.l0 k x0 (y109 ++ [(⟨(af_ x0 x7).f0, (⟨(af_ x0 x7).f1.f0, (af_ x0 x7).f1.f1, (af_ x0 x7).f1.f2⟩ : S61)⟩ : S63)]) true (wrap64 (x7 + 1)) x102000 x102001 x102002 x102003) else (none))) else (none)) else (none))) else (none)) else (if 0 ≤ x7 then (if x7 < (x0.length : Int) then (if ((af_ x0 x7).f0).toList = x102000.toList then (aR_.l0 k x0 x5 x6 (wrap64 (x7 + 1)) x102000 x102001 x102002 x102003) else (if x5.length < 2932031007402 then (aR_.l0 k x0 (x5 ++ [(⟨(af_ x0 x7).f0, (⟨(af_ x0 x7).f1.f0, (af_ x0 x7).f1.f1, (af_ x0 x7).f1.f2⟩ : S61)⟩ : S63)]) x6 (wrap64 (x7 + 1)) x102000 x102001 x102002 x102003) else (none))) else (none)) else (none))
end
def aR_.f (k : Nat) (l0 : List (S63)) (a1_0 : ByteArray) (a1_1 : ByteArray) (a1_2 : Int) (a1_3 : Int) : Option ((List (S63))) := aR_.l0 k l0 (([] : List (S63))) false 0 a1_0 a1_1 a1_2 a1_3
set_option maxHeartbeats 8000000 in
set_option maxRecDepth 100000 in
theorem aR_.calls (k : Nat) (A0 : Option Addr) (c0 : Nat) (l0 : List (S63)) (a1_0 : ByteArray) (a1_1 : ByteArray) (a1_2 : Int) (a1_3 : Int) (r : List (S63)) (w : World) (hr0 : Kd.C k63 w A0 l0.length l0) (hc0 : l0.length ≤ c0) (h : aR_.f k l0 a1_0 a1_1 a1_2 a1_3 = some r) :
  Calls Try.prog 88 #[.slice A0 l0.length c0, .agg #[.string a1_0, .string a1_1, .int .i64 a1_2, .int .i64 a1_3]] w fun e w' => ∃ v0_ : Value, e = .returned (v0_) ∧ Kd.R k63 63 w' w.heap.size (fun _ => True) v0_ r ∧ Below w.heap.size w w' := by
 have hu63 := Try.underlying63
 have HR0 := Aside0.mk hr0
 have HC0 := Aside0.mk hc0
 clear hr0 hc0
 have HB := Aside0.mk (Below.refl w.heap.size w)
 have H : (aR_.l0 k l0 (([] : List (S63))) false 0 a1_0 a1_1 a1_2 a1_3) = some r := h
 clear h
 obtain ⟨y102, hy102⟩ : ∃ y_ : List (S63), y_ = (([] : List (S63))) := ⟨_, rfl⟩
 replace H : (aR_.l0 k l0 y102 false 0 a1_0 a1_1 a1_2 a1_3) = some r := by first | (rw [hy102]; with_reducible exact H) | (have H2_ := (Option.bind_some _ _).symm.trans H; rw [hy102]; with_reducible exact H2_) | (have H2_ := (Option.bind_some _ _).symm.trans H; with_reducible exact H2_) | with_reducible exact H | (rw [hy102]; exact H) | exact H
 have Ny102 := Aside0.mk hy102
 clear hy102
 have H' := Aside0.mk H
 clear H
 go_enter Try.func88, Try.ntmps88
 go_wp2_with (first | ((with_reducible refine au_ (N := 3) rfl ?_); refine aQ_ ?hg (N := 3) ?hd (cs := #[.string a1_0, .string a1_1, .int .i64 a1_2, .int .i64 a1_3]) (t := 63) ?hr ?_; (case hd => rfl); (case hg => rfl); (case hr => (go_simp; try rfl)); intro gb101 hg w3 hbox hb; have BK101 := Aside0.mk (hbox); have GW101 := Aside0.mk ((by rw [hg]; exact (ae_ (bz HB.out)) : w.heap.size ≤ gb101)); have GE101 := Aside0.mk ((by rw [hg]; exact (ae_ (bz HB.out)) : w.heap.size ≤ gb101)); replace HB := Aside0.mk (ag_ (bz HB.out) hb); clear hb hbox hg) | ((with_reducible refine au_ (N := 8) rfl ?_); refine Kd.R_lit k63 _ 63 ?hg (N := 8) ?hd (xs := ([] : List (S63))) (inner := []) (ok := fun _ => True) (okp := fun _ => True) ?hr ?hp (fun _ hk => hk) trivial (Below.refl _ _) (Nat.le_refl _) (by simp) ?_; (case hd => rfl); (case hg => rfl); (case hr => (go_simp; try rfl)); (case hp => exact (Reps.none _ _)); intro v103 w4 ho5 hb hg_ hnew_; clear hg_ hnew_; (first | rw [← Ny102.out] at ho5 | (simp only [Int.reduceToNat] at ho5; rw [← Ny102.out] at ho5)); have HO104 := Aside0.mk (Kd.bI_ (Kd.R_newB ho5 (g := gb101) (o := .cells #[.string a1_0, .string a1_1, .int .i64 a1_2, .int .i64 a1_3] 63 (0, 0)) (kz BK101.out)) (ae_ (by repeat (first | (with_reducible first | exact HB.out | apply bA_ | apply bN_ | apply bD_ | refine ac_ ?_ GE101.out) | exact HB.out)))); replace BK101 := Aside0.mk (aG_ (g := gb101) (o := .cells #[.string a1_0, .string a1_1, .int .i64 a1_2, .int .i64 a1_3] 63 (0, 0)) (kz BK101.out) hb); replace HB := Aside0.mk (ag_ (by repeat (first | (with_reducible first | exact HB.out | apply bA_ | apply bN_ | apply bD_ | refine ac_ ?_ GE101.out) | exact HB.out)) hb); clear hb ho5))
 repeat (go_quiet (first | ((with_reducible refine au_ (N := 3) rfl ?_); refine aQ_ ?hg (N := 3) ?hd (cs := #[.string a1_0, .string a1_1, .int .i64 a1_2, .int .i64 a1_3]) (t := 63) ?hr ?_; (case hd => rfl); (case hg => rfl); (case hr => (go_simp; try rfl)); intro gb101 hg w3 hbox hb; have BK101 := Aside0.mk (hbox); have GW101 := Aside0.mk ((by rw [hg]; exact (ae_ (bz HB.out)) : w.heap.size ≤ gb101)); have GE101 := Aside0.mk ((by rw [hg]; exact (ae_ (bz HB.out)) : w.heap.size ≤ gb101)); replace HB := Aside0.mk (ag_ (bz HB.out) hb); clear hb hbox hg) | ((with_reducible refine au_ (N := 8) rfl ?_); refine Kd.R_lit k63 _ 63 ?hg (N := 8) ?hd (xs := ([] : List (S63))) (inner := []) (ok := fun _ => True) (okp := fun _ => True) ?hr ?hp (fun _ hk => hk) trivial (Below.refl _ _) (Nat.le_refl _) (by simp) ?_; (case hd => rfl); (case hg => rfl); (case hr => (go_simp; try rfl)); (case hp => exact (Reps.none _ _)); intro v103 w4 ho5 hb hg_ hnew_; clear hg_ hnew_; (first | rw [← Ny102.out] at ho5 | (simp only [Int.reduceToNat] at ho5; rw [← Ny102.out] at ho5)); have HO104 := Aside0.mk (Kd.bI_ (Kd.R_newB ho5 (g := gb101) (o := .cells #[.string a1_0, .string a1_1, .int .i64 a1_2, .int .i64 a1_3] 63 (0, 0)) (kz BK101.out)) (ae_ (by repeat (first | (with_reducible first | exact HB.out | apply bA_ | apply bN_ | apply bD_ | refine ac_ ?_ GE101.out) | exact HB.out)))); replace BK101 := Aside0.mk (aG_ (g := gb101) (o := .cells #[.string a1_0, .string a1_1, .int .i64 a1_2, .int .i64 a1_3] 63 (0, 0)) (kz BK101.out) hb); replace HB := Aside0.mk (ag_ (by repeat (first | (with_reducible first | exact HB.out | apply bA_ | apply bN_ | apply bD_ | refine ac_ ?_ GE101.out) | exact HB.out)) hb); clear hb ho5)); try go_wp2_with (first | ((with_reducible refine au_ (N := 3) rfl ?_); refine aQ_ ?hg (N := 3) ?hd (cs := #[.string a1_0, .string a1_1, .int .i64 a1_2, .int .i64 a1_3]) (t := 63) ?hr ?_; (case hd => rfl); (case hg => rfl); (case hr => (go_simp; try rfl)); intro gb101 hg w3 hbox hb; have BK101 := Aside0.mk (hbox); have GW101 := Aside0.mk ((by rw [hg]; exact (ae_ (bz HB.out)) : w.heap.size ≤ gb101)); have GE101 := Aside0.mk ((by rw [hg]; exact (ae_ (bz HB.out)) : w.heap.size ≤ gb101)); replace HB := Aside0.mk (ag_ (bz HB.out) hb); clear hb hbox hg) | ((with_reducible refine au_ (N := 8) rfl ?_); refine Kd.R_lit k63 _ 63 ?hg (N := 8) ?hd (xs := ([] : List (S63))) (inner := []) (ok := fun _ => True) (okp := fun _ => True) ?hr ?hp (fun _ hk => hk) trivial (Below.refl _ _) (Nat.le_refl _) (by simp) ?_; (case hd => rfl); (case hg => rfl); (case hr => (go_simp; try rfl)); (case hp => exact (Reps.none _ _)); intro v103 w4 ho5 hb hg_ hnew_; clear hg_ hnew_; (first | rw [← Ny102.out] at ho5 | (simp only [Int.reduceToNat] at ho5; rw [← Ny102.out] at ho5)); have HO104 := Aside0.mk (Kd.bI_ (Kd.R_newB ho5 (g := gb101) (o := .cells #[.string a1_0, .string a1_1, .int .i64 a1_2, .int .i64 a1_3] 63 (0, 0)) (kz BK101.out)) (ae_ (by repeat (first | (with_reducible first | exact HB.out | apply bA_ | apply bN_ | apply bD_ | refine ac_ ?_ GE101.out) | exact HB.out)))); replace BK101 := Aside0.mk (aG_ (g := gb101) (o := .cells #[.string a1_0, .string a1_1, .int .i64 a1_2, .int .i64 a1_3] 63 (0, 0)) (kz BK101.out) hb); replace HB := Aside0.mk (ag_ (by repeat (first | (with_reducible first | exact HB.out | apply bA_ | apply bN_ | apply bD_ | refine ac_ ?_ GE101.out) | exact HB.out)) hb); clear hb ho5)))
 (try simp only [Act.put, lsa_, ls0_, ls1_])
 go_loopg [5, 6, 7] k (fun kq v5 v6 v7 w' => ∃ (x5_1 : List (S63)) (x6_1 : Bool) (x7_1 : Int), v6 = .bool x6_1 ∧ v7 = .int .i64 x7_1 ∧ Aside0 (aR_.l0 kq l0 x5_1 x6_1 x7_1 a1_0 a1_1 a1_2 a1_3 = some r) ∧ Aside0 (kq ≤ k) ∧ Aside0 (Kd.R k63 63 w' w.heap.size (fun k_ => k_ ≠ gb101) v5 x5_1) ∧ Aside0 (w'.heap[gb101]? = some (.cells #[.string a1_0, .string a1_1, .int .i64 a1_2, .int .i64 a1_3] 63 (0, 0))) ∧ Aside0 (Below w.heap.size w w'))
 case atStart => exact ⟨(y102), (false), (0), (by first | rfl | (simp; done) | (simp [*]; done)), (by first | rfl | (simp; done) | (simp [*]; done)), H', ⟨Nat.le_refl _⟩, ⟨rz (Kd.aK_ HO104.out (fun _ hk => hk.2))⟩, ⟨by (with_reducible repeat (first | refine ai_ ?_ _ | refine aj_ ?_ | refine ah_ ?_ _)); exact BK101.out⟩, ⟨by repeat (first | (with_reducible first | exact HB.out | apply bA_ | apply bN_ | apply bD_ | refine ac_ ?_ GE101.out) | exact HB.out)⟩⟩
 case round =>
  clear H'
  obtain ⟨x5_1, x6_1, x7_1, rfl, rfl, HA, HK1, HO_5, BK101, HB⟩ := hrel
  cases gk with
  | zero => exact absurd HA.out (by simp [aR_.l0])
  | succ k1 =>
   have H := HA.out
   clear HA
   simp only [aR_.l0] at H
   by_cases c6 : x7_1 < (l0.length : Int)
   rotate_left
   ·rw [if_neg c6] at H
    have c6b0 : decide (x7_1 < (l0.length : Int)) = false := decide_eq_false c6
    clear c6
    by_cases c29 : x6_1 = true
    rotate_left
    ·replace c29 := Bool.eq_false_iff.mpr c29
     subst c29
     have H1 : (if x5_1.length < 2932031007402 then (some (x5_1 ++ [(⟨a1_0, (⟨a1_1, a1_2, a1_3⟩ : S61)⟩ : S63)])) else (none)) = some r := by rw [if_neg (show ¬ (false = true) by decide)] at H; exact H
     clear H
     have H := H1
     clear H1
     by_cases c30 : x5_1.length < 2932031007402
     rotate_left
     ·rw [if_neg c30] at H
      exact absurd H (by simp)
     rw [if_pos c30] at H
     have LMc30 := Aside0.mk c30
     clear c30
     obtain ⟨y105, hy105⟩ : ∃ y_ : List (S63), y_ = (x5_1 ++ [(⟨a1_0, (⟨a1_1, a1_2, a1_3⟩ : S61)⟩ : S63)]) := ⟨_, rfl⟩
     replace H : (some y105) = some r := by first | (rw [hy105]; with_reducible exact H) | (have H2_ := (Option.bind_some _ _).symm.trans H; rw [hy105]; with_reducible exact H2_) | (have H2_ := (Option.bind_some _ _).symm.trans H; with_reducible exact H2_) | with_reducible exact H | (rw [hy105]; exact H) | exact H
     have Ny105 := Aside0.mk hy105
     clear hy105
     obtain rfl := Option.some.inj H
     have hcz31_0 : wr.cell? ⟨gb101, 0, none⟩ = some (.string a1_0) := (ab_ BK101.out 0).trans rfl
     have hcz31_1 : wr.cell? ⟨gb101, 1, none⟩ = some (.string a1_1) := (ab_ BK101.out 1).trans rfl
     have hcz31_2 : wr.cell? ⟨gb101, 2, none⟩ = some (.int .i64 a1_2) := (ab_ BK101.out 2).trans rfl
     have hcz31_3 : wr.cell? ⟨gb101, 3, none⟩ = some (.int .i64 a1_3) := (ab_ BK101.out 3).trans rfl
     have hfz31_0 := aa_ BK101.out 0
     have hfz31_1 := aa_ BK101.out 1
     have hfz31_2 := aa_ BK101.out 2
     have hfz31_3 := aa_ BK101.out 3
     go_wp2_with (first | ((with_reducible refine bn_ (b := .append) (xs := #[.tmp 48, .tmp 50]) rfl ?_); at_builtin; refine Kd.ck_ k63 (w0 := w) w.heap.size rfl (.tmp 48) (.tmp 50) 27 63 (.agg #[(.string ⟨#[]⟩), (.string ⟨#[]⟩), (.int .i64 0), (.int .i64 0)]) 48 rfl Try.underlying27 dk_ rfl (by decide) (by omega) u5 x5_1 (⟨a1_0, (⟨a1_1, a1_2, a1_3⟩ : S61)⟩ : S63) [.string a1_0, .string a1_1, .int .i64 a1_2, .int .i64 a1_3] (fun k_ => k_ ≠ gb101) (fun _ => False) rfl rfl ?aP (fun _ hk => hk.elim) ?aF ?aO ?aB ?aS ?aL ?_; (case aP => exact cE_ _ _ _ (⟨a1_0, (⟨a1_1, a1_2, a1_3⟩ : S61)⟩ : S63)); (case aB => exact (by repeat (first | (with_reducible first | exact HB.out | apply bA_ | apply bN_ | apply bD_ | refine ac_ ?_ GE101.out) | exact HB.out))); (case aF => exact (fun k_ hk => Kd.df_ (g := gb101) (o := .cells #[.string a1_0, .string a1_1, .int .i64 a1_2, .int .i64 a1_3] 63 (0, 0)) (kz BK101.out) k_ hk)); (case aO => exact (rz HO_5.out)); (case aS => exact (ae_ (by repeat (first | (with_reducible first | exact HB.out | apply bA_ | apply bN_ | apply bD_ | refine ac_ ?_ GE101.out) | exact HB.out)))); (case aL => have := LMc30.out; omega); intro v106 w32 ho hb hg hat; rw [← Ny105.out] at ho; replace BK101 := Aside0.mk (bW_ (g := gb101) (o := .cells #[.string a1_0, .string a1_1, .int .i64 a1_2, .int .i64 a1_3] 63 (0, 0)) (kz BK101.out) hg (Kd.R_away HO_5.out (fun _ hk => hk))); replace HB := Aside0.mk (hb); have HO107 := Aside0.mk (ho); clear HO_5; clear ho hb hg hat))
     repeat (go_quiet (first | ((with_reducible refine bn_ (b := .append) (xs := #[.tmp 48, .tmp 50]) rfl ?_); at_builtin; refine Kd.ck_ k63 (w0 := w) w.heap.size rfl (.tmp 48) (.tmp 50) 27 63 (.agg #[(.string ⟨#[]⟩), (.string ⟨#[]⟩), (.int .i64 0), (.int .i64 0)]) 48 rfl Try.underlying27 dk_ rfl (by decide) (by omega) u5 x5_1 (⟨a1_0, (⟨a1_1, a1_2, a1_3⟩ : S61)⟩ : S63) [.string a1_0, .string a1_1, .int .i64 a1_2, .int .i64 a1_3] (fun k_ => k_ ≠ gb101) (fun _ => False) rfl rfl ?aP (fun _ hk => hk.elim) ?aF ?aO ?aB ?aS ?aL ?_; (case aP => exact cE_ _ _ _ (⟨a1_0, (⟨a1_1, a1_2, a1_3⟩ : S61)⟩ : S63)); (case aB => exact (by repeat (first | (with_reducible first | exact HB.out | apply bA_ | apply bN_ | apply bD_ | refine ac_ ?_ GE101.out) | exact HB.out))); (case aF => exact (fun k_ hk => Kd.df_ (g := gb101) (o := .cells #[.string a1_0, .string a1_1, .int .i64 a1_2, .int .i64 a1_3] 63 (0, 0)) (kz BK101.out) k_ hk)); (case aO => exact (rz HO_5.out)); (case aS => exact (ae_ (by repeat (first | (with_reducible first | exact HB.out | apply bA_ | apply bN_ | apply bD_ | refine ac_ ?_ GE101.out) | exact HB.out)))); (case aL => have := LMc30.out; omega); intro v106 w32 ho hb hg hat; rw [← Ny105.out] at ho; replace BK101 := Aside0.mk (bW_ (g := gb101) (o := .cells #[.string a1_0, .string a1_1, .int .i64 a1_2, .int .i64 a1_3] 63 (0, 0)) (kz BK101.out) hg (Kd.R_away HO_5.out (fun _ hk => hk))); replace HB := Aside0.mk (hb); have HO107 := Aside0.mk (ho); clear HO_5; clear ho hb hg hat)); try go_wp2_with (first | ((with_reducible refine bn_ (b := .append) (xs := #[.tmp 48, .tmp 50]) rfl ?_); at_builtin; refine Kd.ck_ k63 (w0 := w) w.heap.size rfl (.tmp 48) (.tmp 50) 27 63 (.agg #[(.string ⟨#[]⟩), (.string ⟨#[]⟩), (.int .i64 0), (.int .i64 0)]) 48 rfl Try.underlying27 dk_ rfl (by decide) (by omega) u5 x5_1 (⟨a1_0, (⟨a1_1, a1_2, a1_3⟩ : S61)⟩ : S63) [.string a1_0, .string a1_1, .int .i64 a1_2, .int .i64 a1_3] (fun k_ => k_ ≠ gb101) (fun _ => False) rfl rfl ?aP (fun _ hk => hk.elim) ?aF ?aO ?aB ?aS ?aL ?_; (case aP => exact cE_ _ _ _ (⟨a1_0, (⟨a1_1, a1_2, a1_3⟩ : S61)⟩ : S63)); (case aB => exact (by repeat (first | (with_reducible first | exact HB.out | apply bA_ | apply bN_ | apply bD_ | refine ac_ ?_ GE101.out) | exact HB.out))); (case aF => exact (fun k_ hk => Kd.df_ (g := gb101) (o := .cells #[.string a1_0, .string a1_1, .int .i64 a1_2, .int .i64 a1_3] 63 (0, 0)) (kz BK101.out) k_ hk)); (case aO => exact (rz HO_5.out)); (case aS => exact (ae_ (by repeat (first | (with_reducible first | exact HB.out | apply bA_ | apply bN_ | apply bD_ | refine ac_ ?_ GE101.out) | exact HB.out)))); (case aL => have := LMc30.out; omega); intro v106 w32 ho hb hg hat; rw [← Ny105.out] at ho; replace BK101 := Aside0.mk (bW_ (g := gb101) (o := .cells #[.string a1_0, .string a1_1, .int .i64 a1_2, .int .i64 a1_3] 63 (0, 0)) (kz BK101.out) hg (Kd.R_away HO_5.out (fun _ hk => hk))); replace HB := Aside0.mk (hb); have HO107 := Aside0.mk (ho); clear HO_5; clear ho hb hg hat)))
     go_ret
     exact ⟨_, by first | rfl | (simp [*, an_, ao_] <;> rfl), rz (Kd.aK_ HO107.out (fun _ hk => trivial)), by repeat (first | (with_reducible first | exact HB.out | apply bA_ | apply bN_ | apply bD_ | refine ac_ ?_ GE101.out) | exact HB.out)⟩
    subst c29
    have H1 : (some x5_1) = some r := by rw [if_pos rfl] at H; exact H
    clear H
    have H := H1
    clear H1
    obtain rfl := Option.some.inj H
    go_wp2
    repeat (go_quiet (fail); try go_wp2)
    go_ret
    exact ⟨_, by first | rfl | (simp [*, an_, ao_] <;> rfl), rz (Kd.aK_ HO_5.out (fun _ hk => trivial)), by repeat (first | (with_reducible first | exact HB.out | apply bA_ | apply bN_ | apply bD_ | refine ac_ ?_ GE101.out) | exact HB.out)⟩
   rw [if_pos c6] at H
   have c6b0 : decide (x7_1 < (l0.length : Int)) = true := decide_eq_true c6
   clear c6
   have HC7 := Aside0.mk H
   clear H
   go_upto_region 6 with (fail)
   repeat (go_quiet (fail); go_upto_region 6 with (fail))
   go_cut [26] (fun v26 wc => ∃ (kq : Nat) (x26_6 : Bool), v26 = .bool x26_6 ∧ Aside0 (aR_.j1 kq l0 x5_1 x6_1 x7_1 x26_6 a1_0 a1_1 a1_2 a1_3 = some r) ∧ Aside0 (kq ≤ k1) ∧ Aside0 (Kd.R k63 63 wc w.heap.size (fun k_ => k_ ≠ gb101) u5 x5_1) ∧ Aside0 (wc.heap[gb101]? = some (.cells #[.string a1_0, .string a1_1, .int .i64 a1_2, .int .i64 a1_3] 63 (0, 0))) ∧ Aside0 (Below w.heap.size w wc))
   case first =>
    have H := HC7.out
    clear HC7
    by_cases c8 : x6_1 = true
    rotate_left
    ·replace c8 := Bool.eq_false_iff.mpr c8
     subst c8
     have H1 : (if 0 ≤ x7_1 then (aR_.j1 k1 l0 x5_1 false x7_1 (!(Op.bytesLess (((af_ l0 x7_1).f0).toList) a1_0.toList)) a1_0 a1_1 a1_2 a1_3) else (none)) = some r := by rw [if_neg (show ¬ (false = true) by decide)] at H; exact H
     clear H
     have H := H1
     clear H1
     by_cases c9 : 0 ≤ x7_1
     rotate_left
     ·rw [if_neg c9] at H
      exact absurd H (by simp)
     rw [if_pos c9] at H
     have c9b0 : decide (0 ≤ x7_1) = true := decide_eq_true c9
     clear c9
     (first | rw [c9b0] | (simp only [i64_w, i32_w]; rw [c9b0]) | (simp only [c9b1, Bool.not_true, Bool.not_false]) | (simp only [c9b0, Bool.not_true, Bool.not_false]) | skip)
     have H' := Aside0.mk H
     clear H
     have p108 : 0 ≤ (x7_1 : Int) := of_decide_eq_true (by assumption)
     have q108 : x7_1 < (l0.length : Int) := of_decide_eq_true (by assumption)
     obtain ⟨ad108, e108, hx108_0, hx108_1, hx108_2, hx108_3⟩ := cm_ HR0.out x7_1 p108 q108
     cases e108
     replace hx108_0 := (HB.out.cell (bl_ w _ hx108_0)).trans hx108_0
     replace hx108_1 := (HB.out.cell (bl_ w _ hx108_1)).trans hx108_1
     replace hx108_2 := (HB.out.cell (bl_ w _ hx108_2)).trans hx108_2
     replace hx108_3 := (HB.out.cell (bl_ w _ hx108_3)).trans hx108_3
     replace p108 := eq_true p108
     replace q108 := eq_true q108
     have hcz10_0 : wr.cell? ⟨gb101, 0, none⟩ = some (.string a1_0) := (ab_ BK101.out 0).trans rfl
     have hcz10_1 : wr.cell? ⟨gb101, 1, none⟩ = some (.string a1_1) := (ab_ BK101.out 1).trans rfl
     have hcz10_2 : wr.cell? ⟨gb101, 2, none⟩ = some (.int .i64 a1_2) := (ab_ BK101.out 2).trans rfl
     have hcz10_3 : wr.cell? ⟨gb101, 3, none⟩ = some (.int .i64 a1_3) := (ab_ BK101.out 3).trans rfl
     have hfz10_0 := aa_ BK101.out 0
     have hfz10_1 := aa_ BK101.out 1
     have hfz10_2 := aa_ BK101.out 2
     have hfz10_3 := aa_ BK101.out 3
     go_wp2
     repeat (go_quiet (fail); try go_wp2)
     go_meet
     case rel => exact ⟨_, (!(Op.bytesLess (((af_ l0 x7_1).f0).toList) a1_0.toList)), (by first | rfl | (simp; done) | (simp [*]; done)), H', ⟨by have := HK1.out; first | omega | exact Nat.le_refl _⟩, ⟨rz HO_5.out⟩, ⟨by (with_reducible repeat (first | refine ai_ ?_ _ | refine aj_ ?_ | refine ah_ ?_ _)); exact BK101.out⟩, ⟨by repeat (first | (with_reducible first | exact HB.out | apply bA_ | apply bN_ | apply bD_ | refine ac_ ?_ GE101.out) | exact HB.out)⟩⟩
    subst c8
    have H1 : (aR_.j1 k1 l0 x5_1 true x7_1 false a1_0 a1_1 a1_2 a1_3) = some r := by rw [if_pos rfl] at H; exact H
    clear H
    have H := H1
    clear H1
    have H' := Aside0.mk H
    clear H
    go_wp2
    repeat (go_quiet (fail); try go_wp2)
    go_meet
    case rel => exact ⟨_, (false), (by first | rfl | (simp; done) | (simp [*]; done)), H', ⟨by have := HK1.out; first | omega | exact Nat.le_refl _⟩, ⟨rz HO_5.out⟩, ⟨by (with_reducible repeat (first | refine ai_ ?_ _ | refine aj_ ?_ | refine ah_ ?_ _)); exact BK101.out⟩, ⟨by repeat (first | (with_reducible first | exact HB.out | apply bA_ | apply bN_ | apply bD_ | refine ac_ ?_ GE101.out) | exact HB.out)⟩⟩
   case rest =>
    clear HC7
    obtain ⟨kq, x26_6, rfl, HA, HJ6, HO_5, BK101, HB⟩ := hcut
    cases kq with
    | zero => exact absurd HA.out (by simp [aR_.j1])
    | succ kj6 =>
     have H := HA.out
     clear HA
     simp only [aR_.j1] at H
     by_cases c11 : x26_6 = true
     rotate_left
     ·replace c11 := Bool.eq_false_iff.mpr c11
      subst c11
      have H1 : (if 0 ≤ x7_1 then (if x7_1 < (l0.length : Int) then (if ((af_ l0 x7_1).f0).toList = a1_0.toList then (aR_.l0 kj6 l0 x5_1 x6_1 (wrap64 (x7_1 + 1)) a1_0 a1_1 a1_2 a1_3) else (if x5_1.length < 2932031007402 then (aR_.l0 kj6 l0 (x5_1 ++ [(⟨(af_ l0 x7_1).f0, (⟨(af_ l0 x7_1).f1.f0, (af_ l0 x7_1).f1.f1, (af_ l0 x7_1).f1.f2⟩ : S61)⟩ : S63)]) x6_1 (wrap64 (x7_1 + 1)) a1_0 a1_1 a1_2 a1_3) else (none))) else (none)) else (none)) = some r := by rw [if_neg (show ¬ (false = true) by decide)] at H; exact H
      clear H
      have H := H1
      clear H1
      by_cases c22 : 0 ≤ x7_1
      rotate_left
      ·rw [if_neg c22] at H
       exact absurd H (by simp)
      rw [if_pos c22] at H
      have c22b0 : decide (0 ≤ x7_1) = true := decide_eq_true c22
      clear c22
      by_cases c23 : x7_1 < (l0.length : Int)
      rotate_left
      ·rw [if_neg c23] at H
       exact absurd H (by simp)
      rw [if_pos c23] at H
      have c23b0 : decide (x7_1 < (l0.length : Int)) = true := decide_eq_true c23
      clear c23
      by_cases c24 : ((af_ l0 x7_1).f0).toList = a1_0.toList
      rotate_left
      ·rw [if_neg c24] at H
       have c24b0 : (((af_ l0 x7_1).f0).toList == a1_0.toList) = false := beq_eq_false_iff_ne.mpr c24
       have c24b1 : (((af_ l0 x7_1).f0).toList != a1_0.toList) = true := bne_iff_ne.mpr c24
       by_cases c26 : x5_1.length < 2932031007402
       rotate_left
       ·rw [if_neg c26] at H
        exact absurd H (by simp)
       rw [if_pos c26] at H
       have LMc26 := Aside0.mk c26
       clear c26
       obtain ⟨y119, hy119⟩ : ∃ y_ : List (S63), y_ = (x5_1 ++ [(⟨(af_ l0 x7_1).f0, (⟨(af_ l0 x7_1).f1.f0, (af_ l0 x7_1).f1.f1, (af_ l0 x7_1).f1.f2⟩ : S61)⟩ : S63)]) := ⟨_, rfl⟩
       replace H : (aR_.l0 kj6 l0 y119 x6_1 (wrap64 (x7_1 + 1)) a1_0 a1_1 a1_2 a1_3) = some r := by first | (rw [hy119]; with_reducible exact H) | (have H2_ := (Option.bind_some _ _).symm.trans H; rw [hy119]; with_reducible exact H2_) | (have H2_ := (Option.bind_some _ _).symm.trans H; with_reducible exact H2_) | with_reducible exact H | (rw [hy119]; exact H) | exact H
       have Ny119 := Aside0.mk hy119
       clear hy119
       have H' := Aside0.mk H
       clear H
       have p117 : 0 ≤ (x7_1 : Int) := of_decide_eq_true (by assumption)
       have q117 : x7_1 < (l0.length : Int) := of_decide_eq_true (by assumption)
       obtain ⟨ad117, e117, hx117_0, hx117_1, hx117_2, hx117_3⟩ := cm_ HR0.out x7_1 p117 q117
       cases e117
       replace hx117_0 := (HB.out.cell (bl_ w _ hx117_0)).trans hx117_0
       replace hx117_1 := (HB.out.cell (bl_ w _ hx117_1)).trans hx117_1
       replace hx117_2 := (HB.out.cell (bl_ w _ hx117_2)).trans hx117_2
       replace hx117_3 := (HB.out.cell (bl_ w _ hx117_3)).trans hx117_3
       replace p117 := eq_true p117
       replace q117 := eq_true q117
       have hcz27_0 : wc.cell? ⟨gb101, 0, none⟩ = some (.string a1_0) := (ab_ BK101.out 0).trans rfl
       have hcz27_1 : wc.cell? ⟨gb101, 1, none⟩ = some (.string a1_1) := (ab_ BK101.out 1).trans rfl
       have hcz27_2 : wc.cell? ⟨gb101, 2, none⟩ = some (.int .i64 a1_2) := (ab_ BK101.out 2).trans rfl
       have hcz27_3 : wc.cell? ⟨gb101, 3, none⟩ = some (.int .i64 a1_3) := (ab_ BK101.out 3).trans rfl
       have hfz27_0 := aa_ BK101.out 0
       have hfz27_1 := aa_ BK101.out 1
       have hfz27_2 := aa_ BK101.out 2
       have hfz27_3 := aa_ BK101.out 3
       have p118 : 0 ≤ (x7_1 : Int) := of_decide_eq_true (by assumption)
       have q118 : x7_1 < (l0.length : Int) := of_decide_eq_true (by assumption)
       obtain ⟨ad118, e118, hx118_0, hx118_1, hx118_2, hx118_3⟩ := cm_ HR0.out x7_1 p118 q118
       obtain rfl : ad117 = ad118 := (by injection e118)
       replace hx118_0 := (HB.out.cell (bl_ w _ hx118_0)).trans hx118_0
       replace hx118_1 := (HB.out.cell (bl_ w _ hx118_1)).trans hx118_1
       replace hx118_2 := (HB.out.cell (bl_ w _ hx118_2)).trans hx118_2
       replace hx118_3 := (HB.out.cell (bl_ w _ hx118_3)).trans hx118_3
       replace p118 := eq_true p118
       replace q118 := eq_true q118
       go_wp2_with (first | ((with_reducible refine bn_ (b := .append) (xs := #[.tmp 39, .tmp 44]) rfl ?_); at_builtin; refine Kd.ck_ k63 (w0 := w) w.heap.size rfl (.tmp 39) (.tmp 44) 27 63 (.agg #[(.string ⟨#[]⟩), (.string ⟨#[]⟩), (.int .i64 0), (.int .i64 0)]) 48 rfl Try.underlying27 dk_ rfl (by decide) (by omega) u5 x5_1 (⟨(af_ l0 x7_1).f0, (⟨(af_ l0 x7_1).f1.f0, (af_ l0 x7_1).f1.f1, (af_ l0 x7_1).f1.f2⟩ : S61)⟩ : S63) [.string ((af_ l0 x7_1).f0), .string ((af_ l0 x7_1).f1.f0), .int .i64 ((af_ l0 x7_1).f1.f1), .int .i64 ((af_ l0 x7_1).f1.f2)] (fun k_ => k_ ≠ gb101) (fun _ => False) rfl rfl ?aP (fun _ hk => hk.elim) ?aF ?aO ?aB ?aS ?aL ?_; (case aP => exact cE_ _ _ _ (⟨(af_ l0 x7_1).f0, (⟨(af_ l0 x7_1).f1.f0, (af_ l0 x7_1).f1.f1, (af_ l0 x7_1).f1.f2⟩ : S61)⟩ : S63)); (case aB => exact (by repeat (first | (with_reducible first | exact HB.out | apply bA_ | apply bN_ | apply bD_ | refine ac_ ?_ GE101.out) | exact HB.out))); (case aF => exact (fun k_ hk => Kd.df_ (g := gb101) (o := .cells #[.string a1_0, .string a1_1, .int .i64 a1_2, .int .i64 a1_3] 63 (0, 0)) (kz BK101.out) k_ hk)); (case aO => exact (rz HO_5.out)); (case aS => exact (ae_ (by repeat (first | (with_reducible first | exact HB.out | apply bA_ | apply bN_ | apply bD_ | refine ac_ ?_ GE101.out) | exact HB.out)))); (case aL => have := LMc26.out; omega); intro v120 w28 ho hb hg hat; rw [← Ny119.out] at ho; replace BK101 := Aside0.mk (bW_ (g := gb101) (o := .cells #[.string a1_0, .string a1_1, .int .i64 a1_2, .int .i64 a1_3] 63 (0, 0)) (kz BK101.out) hg (Kd.R_away HO_5.out (fun _ hk => hk))); replace HB := Aside0.mk (hb); have HO121 := Aside0.mk (ho); clear HO_5; clear ho hb hg hat))
       repeat (go_quiet (first | ((with_reducible refine bn_ (b := .append) (xs := #[.tmp 39, .tmp 44]) rfl ?_); at_builtin; refine Kd.ck_ k63 (w0 := w) w.heap.size rfl (.tmp 39) (.tmp 44) 27 63 (.agg #[(.string ⟨#[]⟩), (.string ⟨#[]⟩), (.int .i64 0), (.int .i64 0)]) 48 rfl Try.underlying27 dk_ rfl (by decide) (by omega) u5 x5_1 (⟨(af_ l0 x7_1).f0, (⟨(af_ l0 x7_1).f1.f0, (af_ l0 x7_1).f1.f1, (af_ l0 x7_1).f1.f2⟩ : S61)⟩ : S63) [.string ((af_ l0 x7_1).f0), .string ((af_ l0 x7_1).f1.f0), .int .i64 ((af_ l0 x7_1).f1.f1), .int .i64 ((af_ l0 x7_1).f1.f2)] (fun k_ => k_ ≠ gb101) (fun _ => False) rfl rfl ?aP (fun _ hk => hk.elim) ?aF ?aO ?aB ?aS ?aL ?_; (case aP => exact cE_ _ _ _ (⟨(af_ l0 x7_1).f0, (⟨(af_ l0 x7_1).f1.f0, (af_ l0 x7_1).f1.f1, (af_ l0 x7_1).f1.f2⟩ : S61)⟩ : S63)); (case aB => exact (by repeat (first | (with_reducible first | exact HB.out | apply bA_ | apply bN_ | apply bD_ | refine ac_ ?_ GE101.out) | exact HB.out))); (case aF => exact (fun k_ hk => Kd.df_ (g := gb101) (o := .cells #[.string a1_0, .string a1_1, .int .i64 a1_2, .int .i64 a1_3] 63 (0, 0)) (kz BK101.out) k_ hk)); (case aO => exact (rz HO_5.out)); (case aS => exact (ae_ (by repeat (first | (with_reducible first | exact HB.out | apply bA_ | apply bN_ | apply bD_ | refine ac_ ?_ GE101.out) | exact HB.out)))); (case aL => have := LMc26.out; omega); intro v120 w28 ho hb hg hat; rw [← Ny119.out] at ho; replace BK101 := Aside0.mk (bW_ (g := gb101) (o := .cells #[.string a1_0, .string a1_1, .int .i64 a1_2, .int .i64 a1_3] 63 (0, 0)) (kz BK101.out) hg (Kd.R_away HO_5.out (fun _ hk => hk))); replace HB := Aside0.mk (hb); have HO121 := Aside0.mk (ho); clear HO_5; clear ho hb hg hat)); try go_wp2_with (first | ((with_reducible refine bn_ (b := .append) (xs := #[.tmp 39, .tmp 44]) rfl ?_); at_builtin; refine Kd.ck_ k63 (w0 := w) w.heap.size rfl (.tmp 39) (.tmp 44) 27 63 (.agg #[(.string ⟨#[]⟩), (.string ⟨#[]⟩), (.int .i64 0), (.int .i64 0)]) 48 rfl Try.underlying27 dk_ rfl (by decide) (by omega) u5 x5_1 (⟨(af_ l0 x7_1).f0, (⟨(af_ l0 x7_1).f1.f0, (af_ l0 x7_1).f1.f1, (af_ l0 x7_1).f1.f2⟩ : S61)⟩ : S63) [.string ((af_ l0 x7_1).f0), .string ((af_ l0 x7_1).f1.f0), .int .i64 ((af_ l0 x7_1).f1.f1), .int .i64 ((af_ l0 x7_1).f1.f2)] (fun k_ => k_ ≠ gb101) (fun _ => False) rfl rfl ?aP (fun _ hk => hk.elim) ?aF ?aO ?aB ?aS ?aL ?_; (case aP => exact cE_ _ _ _ (⟨(af_ l0 x7_1).f0, (⟨(af_ l0 x7_1).f1.f0, (af_ l0 x7_1).f1.f1, (af_ l0 x7_1).f1.f2⟩ : S61)⟩ : S63)); (case aB => exact (by repeat (first | (with_reducible first | exact HB.out | apply bA_ | apply bN_ | apply bD_ | refine ac_ ?_ GE101.out) | exact HB.out))); (case aF => exact (fun k_ hk => Kd.df_ (g := gb101) (o := .cells #[.string a1_0, .string a1_1, .int .i64 a1_2, .int .i64 a1_3] 63 (0, 0)) (kz BK101.out) k_ hk)); (case aO => exact (rz HO_5.out)); (case aS => exact (ae_ (by repeat (first | (with_reducible first | exact HB.out | apply bA_ | apply bN_ | apply bD_ | refine ac_ ?_ GE101.out) | exact HB.out)))); (case aL => have := LMc26.out; omega); intro v120 w28 ho hb hg hat; rw [← Ny119.out] at ho; replace BK101 := Aside0.mk (bW_ (g := gb101) (o := .cells #[.string a1_0, .string a1_1, .int .i64 a1_2, .int .i64 a1_3] 63 (0, 0)) (kz BK101.out) hg (Kd.R_away HO_5.out (fun _ hk => hk))); replace HB := Aside0.mk (hb); have HO121 := Aside0.mk (ho); clear HO_5; clear ho hb hg hat)))
       go_roundg kj6
       case measure => have := HK1.out; have := HJ6.out; omega
       case rel => exact ⟨(y119), (x6_1), (wrap64 (x7_1 + 1)), (by first | rfl | (simp; done) | (simp [*]; done)), (by first | rfl | (simp; done) | (simp [*]; done)), H', ⟨by have := HK1.out; have := HJ6.out; omega⟩, ⟨rz HO121.out⟩, ⟨by (with_reducible repeat (first | refine ai_ ?_ _ | refine aj_ ?_ | refine ah_ ?_ _)); exact BK101.out⟩, ⟨by repeat (first | (with_reducible first | exact HB.out | apply bA_ | apply bN_ | apply bD_ | refine ac_ ?_ GE101.out) | exact HB.out)⟩⟩
      rw [if_pos c24] at H
      have c24b0 : (((af_ l0 x7_1).f0).toList == a1_0.toList) = true := beq_iff_eq.mpr c24
      have c24b1 : (((af_ l0 x7_1).f0).toList != a1_0.toList) = false := bne_eq_false_iff_eq.mpr c24
      clear c24
      have H' := Aside0.mk H
      clear H
      have p117 : 0 ≤ (x7_1 : Int) := of_decide_eq_true (by assumption)
      have q117 : x7_1 < (l0.length : Int) := of_decide_eq_true (by assumption)
      obtain ⟨ad117, e117, hx117_0, hx117_1, hx117_2, hx117_3⟩ := cm_ HR0.out x7_1 p117 q117
      cases e117
      replace hx117_0 := (HB.out.cell (bl_ w _ hx117_0)).trans hx117_0
      replace hx117_1 := (HB.out.cell (bl_ w _ hx117_1)).trans hx117_1
      replace hx117_2 := (HB.out.cell (bl_ w _ hx117_2)).trans hx117_2
      replace hx117_3 := (HB.out.cell (bl_ w _ hx117_3)).trans hx117_3
      replace p117 := eq_true p117
      replace q117 := eq_true q117
      have hcz25_0 : wc.cell? ⟨gb101, 0, none⟩ = some (.string a1_0) := (ab_ BK101.out 0).trans rfl
      have hcz25_1 : wc.cell? ⟨gb101, 1, none⟩ = some (.string a1_1) := (ab_ BK101.out 1).trans rfl
      have hcz25_2 : wc.cell? ⟨gb101, 2, none⟩ = some (.int .i64 a1_2) := (ab_ BK101.out 2).trans rfl
      have hcz25_3 : wc.cell? ⟨gb101, 3, none⟩ = some (.int .i64 a1_3) := (ab_ BK101.out 3).trans rfl
      have hfz25_0 := aa_ BK101.out 0
      have hfz25_1 := aa_ BK101.out 1
      have hfz25_2 := aa_ BK101.out 2
      have hfz25_3 := aa_ BK101.out 3
      go_wp2
      repeat (go_quiet (fail); try go_wp2)
      go_roundg kj6
      case measure => have := HK1.out; have := HJ6.out; omega
      case rel => exact ⟨(x5_1), (x6_1), (wrap64 (x7_1 + 1)), (by first | rfl | (simp; done) | (simp [*]; done)), (by first | rfl | (simp; done) | (simp [*]; done)), H', ⟨by have := HK1.out; have := HJ6.out; omega⟩, ⟨rz HO_5.out⟩, ⟨by (with_reducible repeat (first | refine ai_ ?_ _ | refine aj_ ?_ | refine ah_ ?_ _)); exact BK101.out⟩, ⟨by repeat (first | (with_reducible first | exact HB.out | apply bA_ | apply bN_ | apply bD_ | refine ac_ ?_ GE101.out) | exact HB.out)⟩⟩
     subst c11
     have H1 : (if x5_1.length < 2932031007402 then ((some (x5_1 ++ [(⟨a1_0, (⟨a1_1, a1_2, a1_3⟩ : S61)⟩ : S63)] : List (S63))).bind fun y109 => (if 0 ≤ x7_1 then (if x7_1 < (l0.length : Int) then (if ((af_ l0 x7_1).f0).toList = a1_0.toList then (aR_.l0 kj6 l0 y109 true (wrap64 (x7_1 + 1)) a1_0 a1_1 a1_2 a1_3) else (if y109.length < 2932031007402 then (aR_.l0 kj6 l0 (y109 ++ [(⟨(af_ l0 x7_1).f0, (⟨(af_ l0 x7_1).f1.f0, (af_ l0 x7_1).f1.f1, (af_ l0 x7_1).f1.f2⟩ : S61)⟩ : S63)]) true (wrap64 (x7_1 + 1)) a1_0 a1_1 a1_2 a1_3) else (none))) else (none)) else (none))) else (none)) = some r := by rw [if_pos rfl] at H; exact H
     clear H
     have H := H1
     clear H1
     by_cases c12 : x5_1.length < 2932031007402
     rotate_left
     ·rw [if_neg c12] at H
      exact absurd H (by simp)
     rw [if_pos c12] at H
     have LMc12 := Aside0.mk c12
     clear c12
     obtain ⟨y109, hy109⟩ : ∃ y_ : List (S63), y_ = (x5_1 ++ [(⟨a1_0, (⟨a1_1, a1_2, a1_3⟩ : S61)⟩ : S63)]) := ⟨_, rfl⟩
     replace H : (if 0 ≤ x7_1 then (if x7_1 < (l0.length : Int) then (if ((af_ l0 x7_1).f0).toList = a1_0.toList then (aR_.l0 kj6 l0 y109 true (wrap64 (x7_1 + 1)) a1_0 a1_1 a1_2 a1_3) else (if y109.length < 2932031007402 then (aR_.l0 kj6 l0 (y109 ++ [(⟨(af_ l0 x7_1).f0, (⟨(af_ l0 x7_1).f1.f0, (af_ l0 x7_1).f1.f1, (af_ l0 x7_1).f1.f2⟩ : S61)⟩ : S63)]) true (wrap64 (x7_1 + 1)) a1_0 a1_1 a1_2 a1_3) else (none))) else (none)) else (none)) = some r := by first | (rw [hy109]; with_reducible exact H) | (have H2_ := (Option.bind_some _ _).symm.trans H; rw [hy109]; with_reducible exact H2_) | (have H2_ := (Option.bind_some _ _).symm.trans H; with_reducible exact H2_) | with_reducible exact H | (rw [hy109]; exact H) | exact H
     have Ny109 := Aside0.mk hy109
     clear hy109
     by_cases c13 : 0 ≤ x7_1
     rotate_left
     ·rw [if_neg c13] at H
      exact absurd H (by simp)
     rw [if_pos c13] at H
     have c13b0 : decide (0 ≤ x7_1) = true := decide_eq_true c13
     clear c13
     by_cases c14 : x7_1 < (l0.length : Int)
     rotate_left
     ·rw [if_neg c14] at H
      exact absurd H (by simp)
     rw [if_pos c14] at H
     have c14b0 : decide (x7_1 < (l0.length : Int)) = true := decide_eq_true c14
     clear c14
     have HC15 := Aside0.mk H
     clear H
     have hcz16_0 : wc.cell? ⟨gb101, 0, none⟩ = some (.string a1_0) := (ab_ BK101.out 0).trans rfl
     have hcz16_1 : wc.cell? ⟨gb101, 1, none⟩ = some (.string a1_1) := (ab_ BK101.out 1).trans rfl
     have hcz16_2 : wc.cell? ⟨gb101, 2, none⟩ = some (.int .i64 a1_2) := (ab_ BK101.out 2).trans rfl
     have hcz16_3 : wc.cell? ⟨gb101, 3, none⟩ = some (.int .i64 a1_3) := (ab_ BK101.out 3).trans rfl
     have hfz16_0 := aa_ BK101.out 0
     have hfz16_1 := aa_ BK101.out 1
     have hfz16_2 := aa_ BK101.out 2
     have hfz16_3 := aa_ BK101.out 3
     go_upto_if 38 with (first | ((with_reducible refine bn_ (b := .append) (xs := #[.tmp 27, .tmp 29]) rfl ?_); at_builtin; refine Kd.ck_ k63 (w0 := w) w.heap.size rfl (.tmp 27) (.tmp 29) 27 63 (.agg #[(.string ⟨#[]⟩), (.string ⟨#[]⟩), (.int .i64 0), (.int .i64 0)]) 48 rfl Try.underlying27 dk_ rfl (by decide) (by omega) u5 x5_1 (⟨a1_0, (⟨a1_1, a1_2, a1_3⟩ : S61)⟩ : S63) [.string a1_0, .string a1_1, .int .i64 a1_2, .int .i64 a1_3] (fun k_ => k_ ≠ gb101) (fun _ => False) rfl rfl ?aP (fun _ hk => hk.elim) ?aF ?aO ?aB ?aS ?aL ?_; (case aP => exact cE_ _ _ _ (⟨a1_0, (⟨a1_1, a1_2, a1_3⟩ : S61)⟩ : S63)); (case aB => exact (by repeat (first | (with_reducible first | exact HB.out | apply bA_ | apply bN_ | apply bD_ | refine ac_ ?_ GE101.out) | exact HB.out))); (case aF => exact (fun k_ hk => Kd.df_ (g := gb101) (o := .cells #[.string a1_0, .string a1_1, .int .i64 a1_2, .int .i64 a1_3] 63 (0, 0)) (kz BK101.out) k_ hk)); (case aO => exact (rz HO_5.out)); (case aS => exact (ae_ (by repeat (first | (with_reducible first | exact HB.out | apply bA_ | apply bN_ | apply bD_ | refine ac_ ?_ GE101.out) | exact HB.out)))); (case aL => have := LMc12.out; omega); intro v110 w17 ho hb hg hat; rw [← Ny109.out] at ho; replace BK101 := Aside0.mk (bW_ (g := gb101) (o := .cells #[.string a1_0, .string a1_1, .int .i64 a1_2, .int .i64 a1_3] 63 (0, 0)) (kz BK101.out) hg (Kd.R_away HO_5.out (fun _ hk => hk))); replace HB := Aside0.mk (hb); have HO111 := Aside0.mk (ho); clear HO_5; clear ho hb hg hat; have p112 : 0 ≤ (x7_1 : Int) := of_decide_eq_true (by assumption); have q112 : x7_1 < (l0.length : Int) := of_decide_eq_true (by assumption); obtain ⟨ad112, e112, hx112_0, hx112_1, hx112_2, hx112_3⟩ := cm_ HR0.out x7_1 p112 q112; cases e112; replace hx112_0 := (HB.out.cell (bl_ w _ hx112_0)).trans hx112_0; replace hx112_1 := (HB.out.cell (bl_ w _ hx112_1)).trans hx112_1; replace hx112_2 := (HB.out.cell (bl_ w _ hx112_2)).trans hx112_2; replace hx112_3 := (HB.out.cell (bl_ w _ hx112_3)).trans hx112_3; replace p112 := eq_true p112; replace q112 := eq_true q112; have hcz18_0 : w17.cell? ⟨gb101, 0, none⟩ = some (.string a1_0) := (ab_ BK101.out 0).trans rfl; have hcz18_1 : w17.cell? ⟨gb101, 1, none⟩ = some (.string a1_1) := (ab_ BK101.out 1).trans rfl; have hcz18_2 : w17.cell? ⟨gb101, 2, none⟩ = some (.int .i64 a1_2) := (ab_ BK101.out 2).trans rfl; have hcz18_3 : w17.cell? ⟨gb101, 3, none⟩ = some (.int .i64 a1_3) := (ab_ BK101.out 3).trans rfl; have hfz18_0 := aa_ BK101.out 0; have hfz18_1 := aa_ BK101.out 1; have hfz18_2 := aa_ BK101.out 2; have hfz18_3 := aa_ BK101.out 3))
     repeat (go_quiet (first | ((with_reducible refine bn_ (b := .append) (xs := #[.tmp 27, .tmp 29]) rfl ?_); at_builtin; refine Kd.ck_ k63 (w0 := w) w.heap.size rfl (.tmp 27) (.tmp 29) 27 63 (.agg #[(.string ⟨#[]⟩), (.string ⟨#[]⟩), (.int .i64 0), (.int .i64 0)]) 48 rfl Try.underlying27 dk_ rfl (by decide) (by omega) u5 x5_1 (⟨a1_0, (⟨a1_1, a1_2, a1_3⟩ : S61)⟩ : S63) [.string a1_0, .string a1_1, .int .i64 a1_2, .int .i64 a1_3] (fun k_ => k_ ≠ gb101) (fun _ => False) rfl rfl ?aP (fun _ hk => hk.elim) ?aF ?aO ?aB ?aS ?aL ?_; (case aP => exact cE_ _ _ _ (⟨a1_0, (⟨a1_1, a1_2, a1_3⟩ : S61)⟩ : S63)); (case aB => exact (by repeat (first | (with_reducible first | exact HB.out | apply bA_ | apply bN_ | apply bD_ | refine ac_ ?_ GE101.out) | exact HB.out))); (case aF => exact (fun k_ hk => Kd.df_ (g := gb101) (o := .cells #[.string a1_0, .string a1_1, .int .i64 a1_2, .int .i64 a1_3] 63 (0, 0)) (kz BK101.out) k_ hk)); (case aO => exact (rz HO_5.out)); (case aS => exact (ae_ (by repeat (first | (with_reducible first | exact HB.out | apply bA_ | apply bN_ | apply bD_ | refine ac_ ?_ GE101.out) | exact HB.out)))); (case aL => have := LMc12.out; omega); intro v110 w17 ho hb hg hat; rw [← Ny109.out] at ho; replace BK101 := Aside0.mk (bW_ (g := gb101) (o := .cells #[.string a1_0, .string a1_1, .int .i64 a1_2, .int .i64 a1_3] 63 (0, 0)) (kz BK101.out) hg (Kd.R_away HO_5.out (fun _ hk => hk))); replace HB := Aside0.mk (hb); have HO111 := Aside0.mk (ho); clear HO_5; clear ho hb hg hat; have p112 : 0 ≤ (x7_1 : Int) := of_decide_eq_true (by assumption); have q112 : x7_1 < (l0.length : Int) := of_decide_eq_true (by assumption); obtain ⟨ad112, e112, hx112_0, hx112_1, hx112_2, hx112_3⟩ := cm_ HR0.out x7_1 p112 q112; cases e112; replace hx112_0 := (HB.out.cell (bl_ w _ hx112_0)).trans hx112_0; replace hx112_1 := (HB.out.cell (bl_ w _ hx112_1)).trans hx112_1; replace hx112_2 := (HB.out.cell (bl_ w _ hx112_2)).trans hx112_2; replace hx112_3 := (HB.out.cell (bl_ w _ hx112_3)).trans hx112_3; replace p112 := eq_true p112; replace q112 := eq_true q112; have hcz18_0 : w17.cell? ⟨gb101, 0, none⟩ = some (.string a1_0) := (ab_ BK101.out 0).trans rfl; have hcz18_1 : w17.cell? ⟨gb101, 1, none⟩ = some (.string a1_1) := (ab_ BK101.out 1).trans rfl; have hcz18_2 : w17.cell? ⟨gb101, 2, none⟩ = some (.int .i64 a1_2) := (ab_ BK101.out 2).trans rfl; have hcz18_3 : w17.cell? ⟨gb101, 3, none⟩ = some (.int .i64 a1_3) := (ab_ BK101.out 3).trans rfl; have hfz18_0 := aa_ BK101.out 0; have hfz18_1 := aa_ BK101.out 1; have hfz18_2 := aa_ BK101.out 2; have hfz18_3 := aa_ BK101.out 3)); go_upto_if 38 with (first | ((with_reducible refine bn_ (b := .append) (xs := #[.tmp 27, .tmp 29]) rfl ?_); at_builtin; refine Kd.ck_ k63 (w0 := w) w.heap.size rfl (.tmp 27) (.tmp 29) 27 63 (.agg #[(.string ⟨#[]⟩), (.string ⟨#[]⟩), (.int .i64 0), (.int .i64 0)]) 48 rfl Try.underlying27 dk_ rfl (by decide) (by omega) u5 x5_1 (⟨a1_0, (⟨a1_1, a1_2, a1_3⟩ : S61)⟩ : S63) [.string a1_0, .string a1_1, .int .i64 a1_2, .int .i64 a1_3] (fun k_ => k_ ≠ gb101) (fun _ => False) rfl rfl ?aP (fun _ hk => hk.elim) ?aF ?aO ?aB ?aS ?aL ?_; (case aP => exact cE_ _ _ _ (⟨a1_0, (⟨a1_1, a1_2, a1_3⟩ : S61)⟩ : S63)); (case aB => exact (by repeat (first | (with_reducible first | exact HB.out | apply bA_ | apply bN_ | apply bD_ | refine ac_ ?_ GE101.out) | exact HB.out))); (case aF => exact (fun k_ hk => Kd.df_ (g := gb101) (o := .cells #[.string a1_0, .string a1_1, .int .i64 a1_2, .int .i64 a1_3] 63 (0, 0)) (kz BK101.out) k_ hk)); (case aO => exact (rz HO_5.out)); (case aS => exact (ae_ (by repeat (first | (with_reducible first | exact HB.out | apply bA_ | apply bN_ | apply bD_ | refine ac_ ?_ GE101.out) | exact HB.out)))); (case aL => have := LMc12.out; omega); intro v110 w17 ho hb hg hat; rw [← Ny109.out] at ho; replace BK101 := Aside0.mk (bW_ (g := gb101) (o := .cells #[.string a1_0, .string a1_1, .int .i64 a1_2, .int .i64 a1_3] 63 (0, 0)) (kz BK101.out) hg (Kd.R_away HO_5.out (fun _ hk => hk))); replace HB := Aside0.mk (hb); have HO111 := Aside0.mk (ho); clear HO_5; clear ho hb hg hat; have p112 : 0 ≤ (x7_1 : Int) := of_decide_eq_true (by assumption); have q112 : x7_1 < (l0.length : Int) := of_decide_eq_true (by assumption); obtain ⟨ad112, e112, hx112_0, hx112_1, hx112_2, hx112_3⟩ := cm_ HR0.out x7_1 p112 q112; cases e112; replace hx112_0 := (HB.out.cell (bl_ w _ hx112_0)).trans hx112_0; replace hx112_1 := (HB.out.cell (bl_ w _ hx112_1)).trans hx112_1; replace hx112_2 := (HB.out.cell (bl_ w _ hx112_2)).trans hx112_2; replace hx112_3 := (HB.out.cell (bl_ w _ hx112_3)).trans hx112_3; replace p112 := eq_true p112; replace q112 := eq_true q112; have hcz18_0 : w17.cell? ⟨gb101, 0, none⟩ = some (.string a1_0) := (ab_ BK101.out 0).trans rfl; have hcz18_1 : w17.cell? ⟨gb101, 1, none⟩ = some (.string a1_1) := (ab_ BK101.out 1).trans rfl; have hcz18_2 : w17.cell? ⟨gb101, 2, none⟩ = some (.int .i64 a1_2) := (ab_ BK101.out 2).trans rfl; have hcz18_3 : w17.cell? ⟨gb101, 3, none⟩ = some (.int .i64 a1_3) := (ab_ BK101.out 3).trans rfl; have hfz18_0 := aa_ BK101.out 0; have hfz18_1 := aa_ BK101.out 1; have hfz18_2 := aa_ BK101.out 2; have hfz18_3 := aa_ BK101.out 3)))
     (try simp only [Act.put, lsa_, ls0_, ls1_])
     have H := HC15.out
     clear HC15
     by_cases c19 : ((af_ l0 x7_1).f0).toList = a1_0.toList
     rotate_left
     ·rw [if_neg c19] at H
      have c19b0 : (((af_ l0 x7_1).f0).toList == a1_0.toList) = false := beq_eq_false_iff_ne.mpr c19
      have c19b1 : (((af_ l0 x7_1).f0).toList != a1_0.toList) = true := bne_iff_ne.mpr c19
      (first | rw [c19b0] | (simp only [i64_w, i32_w]; rw [c19b0]) | (simp only [c19b1, Bool.not_true, Bool.not_false]) | (simp only [c19b0, Bool.not_true, Bool.not_false]) | skip)
      by_cases c20 : y109.length < 2932031007402
      rotate_left
      ·rw [if_neg c20] at H
       exact absurd H (by simp)
      rw [if_pos c20] at H
      have LMc20 := Aside0.mk c20
      clear c20
      obtain ⟨y114, hy114⟩ : ∃ y_ : List (S63), y_ = (y109 ++ [(⟨(af_ l0 x7_1).f0, (⟨(af_ l0 x7_1).f1.f0, (af_ l0 x7_1).f1.f1, (af_ l0 x7_1).f1.f2⟩ : S61)⟩ : S63)]) := ⟨_, rfl⟩
      replace H : (aR_.l0 kj6 l0 y114 true (wrap64 (x7_1 + 1)) a1_0 a1_1 a1_2 a1_3) = some r := by first | (rw [hy114]; with_reducible exact H) | (have H2_ := (Option.bind_some _ _).symm.trans H; rw [hy114]; with_reducible exact H2_) | (have H2_ := (Option.bind_some _ _).symm.trans H; with_reducible exact H2_) | with_reducible exact H | (rw [hy114]; exact H) | exact H
      have Ny114 := Aside0.mk hy114
      clear hy114
      have H' := Aside0.mk H
      clear H
      have p113 : 0 ≤ (x7_1 : Int) := of_decide_eq_true (by assumption)
      have q113 : x7_1 < (l0.length : Int) := of_decide_eq_true (by assumption)
      obtain ⟨ad113, e113, hx113_0, hx113_1, hx113_2, hx113_3⟩ := cm_ HR0.out x7_1 p113 q113
      obtain rfl : ad112 = ad113 := (by injection e113)
      replace hx113_0 := (HB.out.cell (bl_ w _ hx113_0)).trans hx113_0
      replace hx113_1 := (HB.out.cell (bl_ w _ hx113_1)).trans hx113_1
      replace hx113_2 := (HB.out.cell (bl_ w _ hx113_2)).trans hx113_2
      replace hx113_3 := (HB.out.cell (bl_ w _ hx113_3)).trans hx113_3
      replace p113 := eq_true p113
      replace q113 := eq_true q113
      go_wp2_with (first | ((with_reducible refine bn_ (b := .append) (xs := #[.tmp 39, .tmp 44]) rfl ?_); at_builtin; refine Kd.ck_ k63 (w0 := w) w.heap.size rfl (.tmp 39) (.tmp 44) 27 63 (.agg #[(.string ⟨#[]⟩), (.string ⟨#[]⟩), (.int .i64 0), (.int .i64 0)]) 48 rfl Try.underlying27 dk_ rfl (by decide) (by omega) v110 y109 (⟨(af_ l0 x7_1).f0, (⟨(af_ l0 x7_1).f1.f0, (af_ l0 x7_1).f1.f1, (af_ l0 x7_1).f1.f2⟩ : S61)⟩ : S63) [.string ((af_ l0 x7_1).f0), .string ((af_ l0 x7_1).f1.f0), .int .i64 ((af_ l0 x7_1).f1.f1), .int .i64 ((af_ l0 x7_1).f1.f2)] (fun k_ => k_ ≠ gb101) (fun _ => False) rfl rfl ?aP (fun _ hk => hk.elim) ?aF ?aO ?aB ?aS ?aL ?_; (case aP => exact cE_ _ _ _ (⟨(af_ l0 x7_1).f0, (⟨(af_ l0 x7_1).f1.f0, (af_ l0 x7_1).f1.f1, (af_ l0 x7_1).f1.f2⟩ : S61)⟩ : S63)); (case aB => exact (by repeat (first | (with_reducible first | exact HB.out | apply bA_ | apply bN_ | apply bD_ | refine ac_ ?_ GE101.out) | exact HB.out))); (case aF => exact (fun k_ hk => Kd.df_ (g := gb101) (o := .cells #[.string a1_0, .string a1_1, .int .i64 a1_2, .int .i64 a1_3] 63 (0, 0)) (kz BK101.out) k_ hk)); (case aO => exact (rz HO111.out)); (case aS => exact (ae_ (by repeat (first | (with_reducible first | exact HB.out | apply bA_ | apply bN_ | apply bD_ | refine ac_ ?_ GE101.out) | exact HB.out)))); (case aL => have := LMc20.out; omega); intro v115 w21 ho hb hg hat; rw [← Ny114.out] at ho; replace BK101 := Aside0.mk (bW_ (g := gb101) (o := .cells #[.string a1_0, .string a1_1, .int .i64 a1_2, .int .i64 a1_3] 63 (0, 0)) (kz BK101.out) hg (Kd.R_away HO111.out (fun _ hk => hk))); replace HB := Aside0.mk (hb); have HO116 := Aside0.mk (ho); clear HO111; clear ho hb hg hat))
      repeat (go_quiet (first | ((with_reducible refine bn_ (b := .append) (xs := #[.tmp 39, .tmp 44]) rfl ?_); at_builtin; refine Kd.ck_ k63 (w0 := w) w.heap.size rfl (.tmp 39) (.tmp 44) 27 63 (.agg #[(.string ⟨#[]⟩), (.string ⟨#[]⟩), (.int .i64 0), (.int .i64 0)]) 48 rfl Try.underlying27 dk_ rfl (by decide) (by omega) v110 y109 (⟨(af_ l0 x7_1).f0, (⟨(af_ l0 x7_1).f1.f0, (af_ l0 x7_1).f1.f1, (af_ l0 x7_1).f1.f2⟩ : S61)⟩ : S63) [.string ((af_ l0 x7_1).f0), .string ((af_ l0 x7_1).f1.f0), .int .i64 ((af_ l0 x7_1).f1.f1), .int .i64 ((af_ l0 x7_1).f1.f2)] (fun k_ => k_ ≠ gb101) (fun _ => False) rfl rfl ?aP (fun _ hk => hk.elim) ?aF ?aO ?aB ?aS ?aL ?_; (case aP => exact cE_ _ _ _ (⟨(af_ l0 x7_1).f0, (⟨(af_ l0 x7_1).f1.f0, (af_ l0 x7_1).f1.f1, (af_ l0 x7_1).f1.f2⟩ : S61)⟩ : S63)); (case aB => exact (by repeat (first | (with_reducible first | exact HB.out | apply bA_ | apply bN_ | apply bD_ | refine ac_ ?_ GE101.out) | exact HB.out))); (case aF => exact (fun k_ hk => Kd.df_ (g := gb101) (o := .cells #[.string a1_0, .string a1_1, .int .i64 a1_2, .int .i64 a1_3] 63 (0, 0)) (kz BK101.out) k_ hk)); (case aO => exact (rz HO111.out)); (case aS => exact (ae_ (by repeat (first | (with_reducible first | exact HB.out | apply bA_ | apply bN_ | apply bD_ | refine ac_ ?_ GE101.out) | exact HB.out)))); (case aL => have := LMc20.out; omega); intro v115 w21 ho hb hg hat; rw [← Ny114.out] at ho; replace BK101 := Aside0.mk (bW_ (g := gb101) (o := .cells #[.string a1_0, .string a1_1, .int .i64 a1_2, .int .i64 a1_3] 63 (0, 0)) (kz BK101.out) hg (Kd.R_away HO111.out (fun _ hk => hk))); replace HB := Aside0.mk (hb); have HO116 := Aside0.mk (ho); clear HO111; clear ho hb hg hat)); try go_wp2_with (first | ((with_reducible refine bn_ (b := .append) (xs := #[.tmp 39, .tmp 44]) rfl ?_); at_builtin; refine Kd.ck_ k63 (w0 := w) w.heap.size rfl (.tmp 39) (.tmp 44) 27 63 (.agg #[(.string ⟨#[]⟩), (.string ⟨#[]⟩), (.int .i64 0), (.int .i64 0)]) 48 rfl Try.underlying27 dk_ rfl (by decide) (by omega) v110 y109 (⟨(af_ l0 x7_1).f0, (⟨(af_ l0 x7_1).f1.f0, (af_ l0 x7_1).f1.f1, (af_ l0 x7_1).f1.f2⟩ : S61)⟩ : S63) [.string ((af_ l0 x7_1).f0), .string ((af_ l0 x7_1).f1.f0), .int .i64 ((af_ l0 x7_1).f1.f1), .int .i64 ((af_ l0 x7_1).f1.f2)] (fun k_ => k_ ≠ gb101) (fun _ => False) rfl rfl ?aP (fun _ hk => hk.elim) ?aF ?aO ?aB ?aS ?aL ?_; (case aP => exact cE_ _ _ _ (⟨(af_ l0 x7_1).f0, (⟨(af_ l0 x7_1).f1.f0, (af_ l0 x7_1).f1.f1, (af_ l0 x7_1).f1.f2⟩ : S61)⟩ : S63)); (case aB => exact (by repeat (first | (with_reducible first | exact HB.out | apply bA_ | apply bN_ | apply bD_ | refine ac_ ?_ GE101.out) | exact HB.out))); (case aF => exact (fun k_ hk => Kd.df_ (g := gb101) (o := .cells #[.string a1_0, .string a1_1, .int .i64 a1_2, .int .i64 a1_3] 63 (0, 0)) (kz BK101.out) k_ hk)); (case aO => exact (rz HO111.out)); (case aS => exact (ae_ (by repeat (first | (with_reducible first | exact HB.out | apply bA_ | apply bN_ | apply bD_ | refine ac_ ?_ GE101.out) | exact HB.out)))); (case aL => have := LMc20.out; omega); intro v115 w21 ho hb hg hat; rw [← Ny114.out] at ho; replace BK101 := Aside0.mk (bW_ (g := gb101) (o := .cells #[.string a1_0, .string a1_1, .int .i64 a1_2, .int .i64 a1_3] 63 (0, 0)) (kz BK101.out) hg (Kd.R_away HO111.out (fun _ hk => hk))); replace HB := Aside0.mk (hb); have HO116 := Aside0.mk (ho); clear HO111; clear ho hb hg hat)))
      go_roundg kj6
      case measure => have := HK1.out; have := HJ6.out; omega
      case rel => exact ⟨(y114), (true), (wrap64 (x7_1 + 1)), (by first | rfl | (simp; done) | (simp [*]; done)), (by first | rfl | (simp; done) | (simp [*]; done)), H', ⟨by have := HK1.out; have := HJ6.out; omega⟩, ⟨rz HO116.out⟩, ⟨by (with_reducible repeat (first | refine ai_ ?_ _ | refine aj_ ?_ | refine ah_ ?_ _)); exact BK101.out⟩, ⟨by repeat (first | (with_reducible first | exact HB.out | apply bA_ | apply bN_ | apply bD_ | refine ac_ ?_ GE101.out) | exact HB.out)⟩⟩
     rw [if_pos c19] at H
     have c19b0 : (((af_ l0 x7_1).f0).toList == a1_0.toList) = true := beq_iff_eq.mpr c19
     have c19b1 : (((af_ l0 x7_1).f0).toList != a1_0.toList) = false := bne_eq_false_iff_eq.mpr c19
     clear c19
     (first | rw [c19b0] | (simp only [i64_w, i32_w]; rw [c19b0]) | (simp only [c19b1, Bool.not_true, Bool.not_false]) | (simp only [c19b0, Bool.not_true, Bool.not_false]) | skip)
     have H' := Aside0.mk H
     clear H
     go_wp2
     repeat (go_quiet (fail); try go_wp2)
     go_roundg kj6
     case measure => have := HK1.out; have := HJ6.out; omega
     case rel => exact ⟨(y109), (true), (wrap64 (x7_1 + 1)), (by first | rfl | (simp; done) | (simp [*]; done)), (by first | rfl | (simp; done) | (simp [*]; done)), H', ⟨by have := HK1.out; have := HJ6.out; omega⟩, ⟨rz HO111.out⟩, ⟨by (with_reducible repeat (first | refine ai_ ?_ _ | refine aj_ ?_ | refine ah_ ?_ _)); exact BK101.out⟩, ⟨by repeat (first | (with_reducible first | exact HB.out | apply bA_ | apply bN_ | apply bD_ | refine ac_ ?_ GE101.out) | exact HB.out)⟩⟩
mutual
def ax_.l0 : Nat → List (S63) → List (S63) → List (S63) → List (S63) → Int → Option (List ByteArray)
 | 0, _, _, _, _, _ => none
 | k + 1, x0, x1, x2, x7, x8 => if x8 < (x0.length : Int) then (if 0 ≤ x8 then ((aR_.f k x7 ((af_ x0 x8).f0) ((af_ x0 x8).f1.f0) ((af_ x0 x8).f1.f1) ((af_ x0 x8).f1.f2)).bind fun t105 => (ax_.l0 k x0 x1 x2 t105 (wrap64 (x8 + 1)))) else (none)) else (ax_.l1 k x1 x2 x7 0)
def ax_.l1 : Nat → List (S63) → List (S63) → List (S63) → Int → Option (List ByteArray)
 | 0, _, _, _, _ => none
 | k + 1, x1, x2, x7, x9 => if x9 < (x1.length : Int) then (if 0 ≤ x9 then ((aR_.f k x7 ((af_ x1 x9).f0) ((af_ x1 x9).f1.f0) ((af_ x1 x9).f1.f1) ((af_ x1 x9).f1.f2)).bind fun t109 => (ax_.l1 k x1 x2 t109 (wrap64 (x9 + 1)))) else (none)) else (ax_.l2 k x2 x7 0)
def ax_.l2 : Nat → List (S63) → List (S63) → Int → Option (List ByteArray)
 | 0, _, _, _ => none
 | k + 1, x2, x7, x10 => if x10 < (x2.length : Int) then (if 0 ≤ x10 then ((aR_.f k x7 ((af_ x2 x10).f0) ((af_ x2 x10).f1.f0) ((af_ x2 x10).f1.f1) ((af_ x2 x10).f1.f2)).bind fun t113 => (ax_.l2 k x2 t113 (wrap64 (x10 + 1)))) else (none)) else (ax_.l3 k x7 (([] : List ByteArray)) 0)
def ax_.l3 : Nat → List (S63) → List ByteArray → Int → Option (List ByteArray)
 | 0, _, _, _ => none
 | k + 1, x7, x11, x12 => if x12 < (x7.length : Int) then (if 0 ≤ x12 then (if x11.length < 8796093022208 then (ax_.l3 k x7 (x11 ++ [(af_ x7 x12).f0]) (wrap64 (x12 + 1))) else (none)) else (none)) else (some x11)
end
def ax_.f (k : Nat) (l0 : List (S63)) (l1 : List (S63)) (l2 : List (S63)) : Option (List ByteArray) := ax_.l0 k l0 l1 l2 (([] : List (S63))) 0
set_option maxHeartbeats 8000000 in
set_option maxRecDepth 100000 in
theorem ax_.calls (k : Nat) (A0 : Option Addr) (c0 : Nat) (l0 : List (S63)) (A1 : Option Addr) (c1 : Nat) (l1 : List (S63)) (A2 : Option Addr) (c2 : Nat) (l2 : List (S63)) (r : List ByteArray) (w : World) (hr0 : Kd.C k63 w A0 l0.length l0) (hc0 : l0.length ≤ c0) (hr1 : Kd.C k63 w A1 l1.length l1) (hc1 : l1.length ≤ c1) (hr2 : Kd.C k63 w A2 l2.length l2) (hc2 : l2.length ≤ c2) (h : ax_.f k l0 l1 l2 = some r) :
  Calls Try.prog 66 #[.slice A0 l0.length c0, .slice A1 l1.length c1, .slice A2 l2.length c2] w fun e w' => ∃ v0_ : Value, e = .returned (v0_) ∧ Kd.R Kd.string 9 w' w.heap.size (fun _ => True) v0_ r ∧ Below w.heap.size w w' := by
 have hu63 := Try.underlying63
 have HR0 := Aside0.mk hr0
 have HC0 := Aside0.mk hc0
 clear hr0 hc0
 have HR1 := Aside0.mk hr1
 have HC1 := Aside0.mk hc1
 clear hr1 hc1
 have HR2 := Aside0.mk hr2
 have HC2 := Aside0.mk hc2
 clear hr2 hc2
 have HB := Aside0.mk (Below.refl w.heap.size w)
 have H : (ax_.l0 k l0 l1 l2 (([] : List (S63))) 0) = some r := h
 clear h
 obtain ⟨y101, hy101⟩ : ∃ y_ : List (S63), y_ = (([] : List (S63))) := ⟨_, rfl⟩
 replace H : (ax_.l0 k l0 l1 l2 y101 0) = some r := by first | (rw [hy101]; with_reducible exact H) | (have H2_ := (Option.bind_some _ _).symm.trans H; rw [hy101]; with_reducible exact H2_) | (have H2_ := (Option.bind_some _ _).symm.trans H; with_reducible exact H2_) | with_reducible exact H | (rw [hy101]; exact H) | exact H
 have Ny101 := Aside0.mk hy101
 clear hy101
 have H' := Aside0.mk H
 clear H
 go_enter Try.func66, Try.ntmps66
 go_wp2_with (first | ((with_reducible refine au_ (N := 13) rfl ?_); refine Kd.R_lit k63 _ 63 ?hg (N := 13) ?hd (xs := ([] : List (S63))) (inner := []) (ok := fun _ => True) (okp := fun _ => True) ?hr ?hp (fun _ hk => hk) trivial (Below.refl _ _) (Nat.le_refl _) (by simp) ?_; (case hd => rfl); (case hg => rfl); (case hr => (go_simp; try rfl)); (case hp => exact (Reps.none _ _)); intro v102 w4 ho5 hb hg_ hnew_; clear hg_ hnew_; (first | rw [← Ny101.out] at ho5 | (simp only [Int.reduceToNat] at ho5; rw [← Ny101.out] at ho5)); have HO103 := Aside0.mk (Kd.bI_ ho5 (ae_ (bz HB.out))); replace HB := Aside0.mk (ag_ (bz HB.out) hb); clear hb ho5))
 (try simp only [Act.put, lsa_, ls0_, ls1_])
 go_loopg [7, 8] k (fun kq v7 v8 w' => ∃ (x7_1 : List (S63)) (x8_1 : Int), v8 = .int .i64 x8_1 ∧ Aside0 (ax_.l0 kq l0 l1 l2 x7_1 x8_1 = some r) ∧ Aside0 (kq ≤ k) ∧ Aside0 (Kd.R k63 63 w' w.heap.size (fun _ => True) v7 x7_1) ∧ Aside0 (Below w.heap.size w w'))
 case atStart => exact ⟨(y101), (0), (by first | rfl | (simp; done) | (simp [*]; done)), H', ⟨Nat.le_refl _⟩, ⟨rz HO103.out⟩, ⟨bz HB.out⟩⟩
 case round =>
  clear H'
  obtain ⟨x7_1, x8_1, rfl, HA, HK1, HO_7, HB⟩ := hrel
  cases gk with
  | zero => exact absurd HA.out (by simp [ax_.l0])
  | succ k1 =>
   have H := HA.out
   clear HA
   simp only [ax_.l0] at H
   by_cases c6 : x8_1 < (l0.length : Int)
   rotate_left
   ·rw [if_neg c6] at H
    have c6b0 : decide (x8_1 < (l0.length : Int)) = false := decide_eq_false c6
    clear c6
    have H' := Aside0.mk H
    clear H
    go_wp2
    (try simp only [Act.put, lsa_, ls0_, ls1_])
    go_loopg [7, 9] k1 (fun kq v7 v9 w' => ∃ (x7_2 : List (S63)) (x9_2 : Int), v9 = .int .i64 x9_2 ∧ Aside0 (ax_.l1 kq l1 l2 x7_2 x9_2 = some r) ∧ Aside0 (kq ≤ k1) ∧ Aside0 (Kd.R k63 63 w' w.heap.size (fun _ => True) v7 x7_2) ∧ Aside0 (Below w.heap.size w w'))
    case atStart => exact ⟨(x7_1), (0), (by first | rfl | (simp; done) | (simp [*]; done)), H', ⟨Nat.le_refl _⟩, ⟨rz HO_7.out⟩, ⟨bz HB.out⟩⟩
    case round =>
     clear H'
     obtain ⟨x7_2, x9_2, rfl, HA, HK2, HO_7, HB⟩ := hrel
     cases gk with
     | zero => exact absurd HA.out (by simp [ax_.l1])
     | succ k2 =>
      have H := HA.out
      clear HA
      simp only [ax_.l1] at H
      by_cases c11 : x9_2 < (l1.length : Int)
      rotate_left
      ·rw [if_neg c11] at H
       have c11b0 : decide (x9_2 < (l1.length : Int)) = false := decide_eq_false c11
       clear c11
       have H' := Aside0.mk H
       clear H
       go_wp2
       (try simp only [Act.put, lsa_, ls0_, ls1_])
       go_loopg [7, 10] k2 (fun kq v7 v10 w' => ∃ (x7_3 : List (S63)) (x10_3 : Int), v10 = .int .i64 x10_3 ∧ Aside0 (ax_.l2 kq l2 x7_3 x10_3 = some r) ∧ Aside0 (kq ≤ k2) ∧ Aside0 (Kd.R k63 63 w' w.heap.size (fun _ => True) v7 x7_3) ∧ Aside0 (Below w.heap.size w w'))
       case atStart => exact ⟨(x7_2), (0), (by first | rfl | (simp; done) | (simp [*]; done)), H', ⟨Nat.le_refl _⟩, ⟨rz HO_7.out⟩, ⟨bz HB.out⟩⟩
       case round =>
        clear H'
        obtain ⟨x7_3, x10_3, rfl, HA, HK3, HO_7, HB⟩ := hrel
        cases gk with
        | zero => exact absurd HA.out (by simp [ax_.l2])
        | succ k3 =>
         have H := HA.out
         clear HA
         simp only [ax_.l2] at H
         by_cases c16 : x10_3 < (l2.length : Int)
         rotate_left
         ·rw [if_neg c16] at H
          have c16b0 : decide (x10_3 < (l2.length : Int)) = false := decide_eq_false c16
          clear c16
          obtain ⟨y116, hy116⟩ : ∃ y_ : List ByteArray, y_ = (([] : List ByteArray)) := ⟨_, rfl⟩
          replace H : (ax_.l3 k3 x7_3 y116 0) = some r := by first | (rw [hy116]; with_reducible exact H) | (have H2_ := (Option.bind_some _ _).symm.trans H; rw [hy116]; with_reducible exact H2_) | (have H2_ := (Option.bind_some _ _).symm.trans H; with_reducible exact H2_) | with_reducible exact H | (rw [hy116]; exact H) | exact H
          have Ny116 := Aside0.mk hy116
          clear hy116
          have H' := Aside0.mk H
          clear H
          go_wp2_with (first | ((with_reducible refine au_ (N := 50) rfl ?_); refine Kd.R_lit Kd.string _ 9 ?hg (N := 50) ?hd (xs := ([] : List ByteArray)) (inner := []) (ok := fun _ => True) (okp := fun _ => True) ?hr ?hp (fun _ hk => hk) trivial (Below.refl _ _) (Nat.le_refl _) (by simp) ?_; (case hd => rfl); (case hg => rfl); (case hr => (go_simp; try rfl)); (case hp => exact (Reps.none _ _)); intro v117 w21 ho22 hb hg_ hnew_; clear hg_ hnew_; (first | rw [← Ny116.out] at ho22 | (simp only [Int.reduceToNat] at ho22; rw [← Ny116.out] at ho22)); replace HO_7 := Aside0.mk (Kd.aH_ (rz HO_7.out) hb); have HO118 := Aside0.mk (Kd.bI_ ho22 (ae_ (bz HB.out))); replace HB := Aside0.mk (ag_ (bz HB.out) hb); clear hb ho22))
          (try simp only [Act.put, lsa_, ls0_, ls1_])
          go_loopg [11, 12] k3 (fun kq v11 v12 w' => ∃ (x11_4 : List ByteArray) (x12_4 : Int), v12 = .int .i64 x12_4 ∧ Aside0 (ax_.l3 kq x7_3 x11_4 x12_4 = some r) ∧ Aside0 (kq ≤ k3) ∧ Aside0 (Kd.R k63 63 w' w.heap.size (fun _ => True) u7 x7_3) ∧ Aside0 (Kd.R Kd.string 9 w' w.heap.size (fun _ => True) v11 x11_4) ∧ Aside0 (Below w.heap.size w w'))
          case atStart => exact ⟨(y116), (0), (by first | rfl | (simp; done) | (simp [*]; done)), H', ⟨Nat.le_refl _⟩, ⟨rz HO_7.out⟩, ⟨rz HO118.out⟩, ⟨bz HB.out⟩⟩
          case round =>
           clear H'
           obtain ⟨x11_4, x12_4, rfl, HA, HK4, HO_7, HO_11, HB⟩ := hrel
           cases gk with
           | zero => exact absurd HA.out (by simp [ax_.l3])
           | succ k4 =>
            have H := HA.out
            clear HA
            simp only [ax_.l3] at H
            by_cases c23 : x12_4 < (x7_3.length : Int)
            rotate_left
            ·rw [if_neg c23] at H
             have c23b0 : decide (x12_4 < (x7_3.length : Int)) = false := decide_eq_false c23
             clear c23
             obtain rfl := Option.some.inj H
             obtain ⟨Ao28, co28, eo28⟩ := Kd.bF_ HO_7.out
             subst eo28
             go_wp2
             go_ret
             exact ⟨_, by first | rfl | (simp [*, an_, ao_] <;> rfl), rz HO_11.out, bz HB.out⟩
            rw [if_pos c23] at H
            have c23b0 : decide (x12_4 < (x7_3.length : Int)) = true := decide_eq_true c23
            clear c23
            by_cases c24 : 0 ≤ x12_4
            rotate_left
            ·rw [if_neg c24] at H
             exact absurd H (by simp)
            rw [if_pos c24] at H
            have c24b0 : decide (0 ≤ x12_4) = true := decide_eq_true c24
            clear c24
            by_cases c25 : x11_4.length < 8796093022208
            rotate_left
            ·rw [if_neg c25] at H
             exact absurd H (by simp)
            rw [if_pos c25] at H
            have LMc25 := Aside0.mk c25
            clear c25
            obtain ⟨y120, hy120⟩ : ∃ y_ : List ByteArray, y_ = (x11_4 ++ [(af_ x7_3 x12_4).f0]) := ⟨_, rfl⟩
            replace H : (ax_.l3 k4 x7_3 y120 (wrap64 (x12_4 + 1))) = some r := by first | (rw [hy120]; with_reducible exact H) | (have H2_ := (Option.bind_some _ _).symm.trans H; rw [hy120]; with_reducible exact H2_) | (have H2_ := (Option.bind_some _ _).symm.trans H; with_reducible exact H2_) | with_reducible exact H | (rw [hy120]; exact H) | exact H
            have Ny120 := Aside0.mk hy120
            clear hy120
            have H' := Aside0.mk H
            clear H
            obtain ⟨Ao26, co26, eo26⟩ := Kd.bF_ HO_7.out
            subst eo26
            have p119 : 0 ≤ (x12_4 : Int) := of_decide_eq_true (by assumption)
            have q119 : x12_4 < (x7_3.length : Int) := of_decide_eq_true (by assumption)
            obtain ⟨ad119, e119, hx119_0, hx119_1, hx119_2, hx119_3⟩ := cm_ (Kd.bf_ HO_7.out).2.2 x12_4 p119 q119
            cases e119
            replace p119 := eq_true p119
            replace q119 := eq_true q119
            go_wp2_with (first | ((with_reducible refine bn_ (b := .append) (xs := #[.tmp 57, .tmp 63]) rfl ?_); at_builtin; refine Kd.ck_ Kd.string (w0 := w) w.heap.size rfl (.tmp 57) (.tmp 63) 24 9 (.string ⟨#[]⟩) 16 rfl Try.underlying24 info9 rfl (by decide) (by omega) u11 x11_4 ((af_ x7_3 x12_4).f0) [.string ((af_ x7_3 x12_4).f0)] (fun _ => True) (fun _ => False) rfl rfl ?aP (fun _ hk => hk.elim) ?aF ?aO ?aB ?aS ?aL ?_; (case aP => exact rfl); (case aB => exact (bz HB.out)); (case aF => exact (fun _ _ => trivial)); (case aO => exact (rz HO_11.out)); (case aS => exact (ae_ (bz HB.out))); (case aL => have := LMc25.out; omega); intro v121 w27 ho hb hg hat; rw [← Ny120.out] at ho; replace HO_7 := Aside0.mk (Kd.R_over' (rz HO_7.out) (Kd.R_typed (rz HO_11.out)) (by decide) hg); replace HB := Aside0.mk (hb); have HO122 := Aside0.mk (ho); clear HO_11; clear ho hb hg hat))
            go_roundg k4
            case measure => have := HK1.out; have := HK2.out; have := HK3.out; have := HK4.out; omega
            case rel => exact ⟨(y120), (wrap64 (x12_4 + 1)), (by first | rfl | (simp; done) | (simp [*]; done)), H', ⟨by have := HK1.out; have := HK2.out; have := HK3.out; have := HK4.out; omega⟩, ⟨rz HO_7.out⟩, ⟨rz HO122.out⟩, ⟨bz HB.out⟩⟩
         rw [if_pos c16] at H
         have c16b0 : decide (x10_3 < (l2.length : Int)) = true := decide_eq_true c16
         clear c16
         by_cases c17 : 0 ≤ x10_3
         rotate_left
         ·rw [if_neg c17] at H
          exact absurd H (by simp)
         rw [if_pos c17] at H
         have c17b0 : decide (0 ≤ x10_3) = true := decide_eq_true c17
         clear c17
         replace H := Option.bind_eq_some_iff.mp H
         obtain ⟨t113, A180, H⟩ := H
         (try dsimp only at H)
         have A18 := Aside0.mk A180
         clear A180
         have H' := Aside0.mk H
         clear H
         have p112 : 0 ≤ (x10_3 : Int) := of_decide_eq_true (by assumption)
         have q112 : x10_3 < (l2.length : Int) := of_decide_eq_true (by assumption)
         obtain ⟨ad112, e112, hx112_0, hx112_1, hx112_2, hx112_3⟩ := cm_ HR2.out x10_3 p112 q112
         cases e112
         replace hx112_0 := (HB.out.cell (bl_ w _ hx112_0)).trans hx112_0
         replace hx112_1 := (HB.out.cell (bl_ w _ hx112_1)).trans hx112_1
         replace hx112_2 := (HB.out.cell (bl_ w _ hx112_2)).trans hx112_2
         replace hx112_3 := (HB.out.cell (bl_ w _ hx112_3)).trans hx112_3
         replace p112 := eq_true p112
         replace q112 := eq_true q112
         obtain ⟨Ao19, co19, eo19⟩ := Kd.bF_ HO_7.out
         subst eo19
         go_wp2_with (first | ((with_reducible refine am_ (f := 88) rfl ?_); refine aX_ (some 49) rfl rfl Try.func88 (by kernel_rfl) rfl #[.slice Ao19 x7_3.length co19, .agg #[.string ((af_ l2 x10_3).f0), .string ((af_ l2 x10_3).f1.f0), .int .i64 ((af_ l2 x10_3).f1.f1), .int .i64 ((af_ l2 x10_3).f1.f2)]] rfl (by first | rfl | (simp only [List.map_toArray, List.map_cons, List.map_nil]; first | done | rfl)) ?_; (with_reducible refine (aR_.calls k3 _ _ x7_3 ((af_ l2 x10_3).f0) ((af_ l2 x10_3).f1.f0) ((af_ l2 x10_3).f1.f1) ((af_ l2 x10_3).f1.f2) t113 _ ?side1 ?side2 A18.out).mono ?_); (case side1 => exact cz (Kd.bf_ HO_7.out).2.2); (case side2 => exact (Kd.bf_ HO_7.out).2.1); rintro e w20 ⟨v114, rfl, ho0, hb⟩; refine ⟨_, rfl, ?_⟩; have HO115 := Aside0.mk (Kd.bI_ (Kd.bU_ ho0 (Kd.R_lt (rz HO_7.out))) (ae_ (bz HB.out))); replace HO_7 := Aside0.mk (Kd.bo_ (rz HO_7.out) (Kd.bv_ ho0) hb); replace HB := Aside0.mk (ag_ (bz HB.out) hb); (try clear hb); (try clear ho0)))
         go_roundg k3
         case measure => have := HK1.out; have := HK2.out; have := HK3.out; omega
         case rel => exact ⟨(t113), (wrap64 (x10_3 + 1)), (by first | rfl | (simp; done) | (simp [*]; done)), H', ⟨by have := HK1.out; have := HK2.out; have := HK3.out; omega⟩, ⟨rz (Kd.aK_ HO115.out (fun _ hk => trivial))⟩, ⟨bz HB.out⟩⟩
      rw [if_pos c11] at H
      have c11b0 : decide (x9_2 < (l1.length : Int)) = true := decide_eq_true c11
      clear c11
      by_cases c12 : 0 ≤ x9_2
      rotate_left
      ·rw [if_neg c12] at H
       exact absurd H (by simp)
      rw [if_pos c12] at H
      have c12b0 : decide (0 ≤ x9_2) = true := decide_eq_true c12
      clear c12
      replace H := Option.bind_eq_some_iff.mp H
      obtain ⟨t109, A130, H⟩ := H
      (try dsimp only at H)
      have A13 := Aside0.mk A130
      clear A130
      have H' := Aside0.mk H
      clear H
      have p108 : 0 ≤ (x9_2 : Int) := of_decide_eq_true (by assumption)
      have q108 : x9_2 < (l1.length : Int) := of_decide_eq_true (by assumption)
      obtain ⟨ad108, e108, hx108_0, hx108_1, hx108_2, hx108_3⟩ := cm_ HR1.out x9_2 p108 q108
      cases e108
      replace hx108_0 := (HB.out.cell (bl_ w _ hx108_0)).trans hx108_0
      replace hx108_1 := (HB.out.cell (bl_ w _ hx108_1)).trans hx108_1
      replace hx108_2 := (HB.out.cell (bl_ w _ hx108_2)).trans hx108_2
      replace hx108_3 := (HB.out.cell (bl_ w _ hx108_3)).trans hx108_3
      replace p108 := eq_true p108
      replace q108 := eq_true q108
      obtain ⟨Ao14, co14, eo14⟩ := Kd.bF_ HO_7.out
      subst eo14
      go_wp2_with (first | ((with_reducible refine am_ (f := 88) rfl ?_); refine aX_ (some 37) rfl rfl Try.func88 (by kernel_rfl) rfl #[.slice Ao14 x7_2.length co14, .agg #[.string ((af_ l1 x9_2).f0), .string ((af_ l1 x9_2).f1.f0), .int .i64 ((af_ l1 x9_2).f1.f1), .int .i64 ((af_ l1 x9_2).f1.f2)]] rfl (by first | rfl | (simp only [List.map_toArray, List.map_cons, List.map_nil]; first | done | rfl)) ?_; (with_reducible refine (aR_.calls k2 _ _ x7_2 ((af_ l1 x9_2).f0) ((af_ l1 x9_2).f1.f0) ((af_ l1 x9_2).f1.f1) ((af_ l1 x9_2).f1.f2) t109 _ ?side1 ?side2 A13.out).mono ?_); (case side1 => exact cz (Kd.bf_ HO_7.out).2.2); (case side2 => exact (Kd.bf_ HO_7.out).2.1); rintro e w15 ⟨v110, rfl, ho0, hb⟩; refine ⟨_, rfl, ?_⟩; have HO111 := Aside0.mk (Kd.bI_ (Kd.bU_ ho0 (Kd.R_lt (rz HO_7.out))) (ae_ (bz HB.out))); replace HO_7 := Aside0.mk (Kd.bo_ (rz HO_7.out) (Kd.bv_ ho0) hb); replace HB := Aside0.mk (ag_ (bz HB.out) hb); (try clear hb); (try clear ho0)))
      go_roundg k2
      case measure => have := HK1.out; have := HK2.out; omega
      case rel => exact ⟨(t109), (wrap64 (x9_2 + 1)), (by first | rfl | (simp; done) | (simp [*]; done)), H', ⟨by have := HK1.out; have := HK2.out; omega⟩, ⟨rz (Kd.aK_ HO111.out (fun _ hk => trivial))⟩, ⟨bz HB.out⟩⟩
   rw [if_pos c6] at H
   have c6b0 : decide (x8_1 < (l0.length : Int)) = true := decide_eq_true c6
   clear c6
   by_cases c7 : 0 ≤ x8_1
   rotate_left
   ·rw [if_neg c7] at H
    exact absurd H (by simp)
   rw [if_pos c7] at H
   have c7b0 : decide (0 ≤ x8_1) = true := decide_eq_true c7
   clear c7
   replace H := Option.bind_eq_some_iff.mp H
   obtain ⟨t105, A80, H⟩ := H
   (try dsimp only at H)
   have A8 := Aside0.mk A80
   clear A80
   have H' := Aside0.mk H
   clear H
   have p104 : 0 ≤ (x8_1 : Int) := of_decide_eq_true (by assumption)
   have q104 : x8_1 < (l0.length : Int) := of_decide_eq_true (by assumption)
   obtain ⟨ad104, e104, hx104_0, hx104_1, hx104_2, hx104_3⟩ := cm_ HR0.out x8_1 p104 q104
   cases e104
   replace hx104_0 := (HB.out.cell (bl_ w _ hx104_0)).trans hx104_0
   replace hx104_1 := (HB.out.cell (bl_ w _ hx104_1)).trans hx104_1
   replace hx104_2 := (HB.out.cell (bl_ w _ hx104_2)).trans hx104_2
   replace hx104_3 := (HB.out.cell (bl_ w _ hx104_3)).trans hx104_3
   replace p104 := eq_true p104
   replace q104 := eq_true q104
   obtain ⟨Ao9, co9, eo9⟩ := Kd.bF_ HO_7.out
   subst eo9
   go_wp2_with (first | ((with_reducible refine am_ (f := 88) rfl ?_); refine aX_ (some 25) rfl rfl Try.func88 (by kernel_rfl) rfl #[.slice Ao9 x7_1.length co9, .agg #[.string ((af_ l0 x8_1).f0), .string ((af_ l0 x8_1).f1.f0), .int .i64 ((af_ l0 x8_1).f1.f1), .int .i64 ((af_ l0 x8_1).f1.f2)]] rfl (by first | rfl | (simp only [List.map_toArray, List.map_cons, List.map_nil]; first | done | rfl)) ?_; (with_reducible refine (aR_.calls k1 _ _ x7_1 ((af_ l0 x8_1).f0) ((af_ l0 x8_1).f1.f0) ((af_ l0 x8_1).f1.f1) ((af_ l0 x8_1).f1.f2) t105 _ ?side1 ?side2 A8.out).mono ?_); (case side1 => exact cz (Kd.bf_ HO_7.out).2.2); (case side2 => exact (Kd.bf_ HO_7.out).2.1); rintro e w10 ⟨v106, rfl, ho0, hb⟩; refine ⟨_, rfl, ?_⟩; have HO107 := Aside0.mk (Kd.bI_ (Kd.bU_ ho0 (Kd.R_lt (rz HO_7.out))) (ae_ (bz HB.out))); replace HO_7 := Aside0.mk (Kd.bo_ (rz HO_7.out) (Kd.bv_ ho0) hb); replace HB := Aside0.mk (ag_ (bz HB.out) hb); (try clear hb); (try clear ho0)))
   go_roundg k1
   case measure => have := HK1.out; omega
   case rel => exact ⟨(t105), (wrap64 (x8_1 + 1)), (by first | rfl | (simp; done) | (simp [*]; done)), H', ⟨by have := HK1.out; omega⟩, ⟨rz (Kd.aK_ HO107.out (fun _ hk => trivial))⟩, ⟨bz HB.out⟩⟩
def cj_.l0 : Nat → List (S63) → ByteArray → Int → Option (Int)
 | 0, _, _, _ => none
 | k + 1, x0, x1, x5 => if x5 < (x0.length : Int) then (if 0 ≤ x5 then (if ((af_ x0 x5).f0).toList = x1.toList then (some x5) else (cj_.l0 k x0 x1 (wrap64 (x5 + 1)))) else (none)) else (some (-1))
def cj_.f (k : Nat) (l0 : List (S63)) (a1 : ByteArray) : Option (Int) := cj_.l0 k l0 a1 0
set_option maxHeartbeats 8000000 in
set_option maxRecDepth 100000 in
theorem cj_.calls (k : Nat) (A0 : Option Addr) (c0 : Nat) (l0 : List (S63)) (a1 : ByteArray) (r : Int) (w : World) (hr0 : Kd.C k63 w A0 l0.length l0) (hc0 : l0.length ≤ c0) (h : cj_.f k l0 a1 = some r) :
  Calls Try.prog 87 #[.slice A0 l0.length c0, .string a1] w fun e w' => e = .returned (.int .i64 r) ∧ av_ w w' := by
 have HR0 := Aside0.mk hr0
 have HC0 := Aside0.mk hc0
 clear hr0 hc0
 have H : (cj_.l0 k l0 a1 0) = some r := h
 clear h
 have H' := Aside0.mk H
 clear H
 go_enter Try.func87, Try.ntmps87
 go_wp2
 (try simp only [Act.put, lsa_, ls0_, ls1_])
 go_loopg [5] k (fun kq v5 w' => ∃ (x5_1 : Int), v5 = .int .i64 x5_1 ∧ Aside0 (cj_.l0 kq l0 a1 x5_1 = some r) ∧ Aside0 (kq ≤ k) ∧ av_ w w')
 case atStart => exact ⟨(0), (by first | rfl | (simp; done) | (simp [*]; done)), H', ⟨Nat.le_refl _⟩, by repeat (first | exact av_.refl _ | apply av_.step)⟩
 case round =>
  clear H'
  obtain ⟨x5_1, rfl, HA, HK1, ⟨m1, rfl⟩⟩ := hrel
  cases gk with
  | zero => exact absurd HA.out (by simp [cj_.l0])
  | succ k1 =>
   have H := HA.out
   clear HA
   simp only [cj_.l0] at H
   by_cases c3 : x5_1 < (l0.length : Int)
   rotate_left
   ·rw [if_neg c3] at H
    have c3b0 : decide (x5_1 < (l0.length : Int)) = false := decide_eq_false c3
    clear c3
    obtain rfl := Option.some.inj H
    go_wp2
    go_ret
    exact ⟨by first | rfl | (simp; done) | (simp [*]; done), by repeat (first | exact av_.refl _ | apply av_.step)⟩
   rw [if_pos c3] at H
   have c3b0 : decide (x5_1 < (l0.length : Int)) = true := decide_eq_true c3
   clear c3
   by_cases c4 : 0 ≤ x5_1
   rotate_left
   ·rw [if_neg c4] at H
    exact absurd H (by simp)
   rw [if_pos c4] at H
   have c4b0 : decide (0 ≤ x5_1) = true := decide_eq_true c4
   clear c4
   by_cases c5 : ((af_ l0 x5_1).f0).toList = a1.toList
   rotate_left
   ·rw [if_neg c5] at H
    have c5b0 : (((af_ l0 x5_1).f0).toList == a1.toList) = false := beq_eq_false_iff_ne.mpr c5
    have c5b1 : (((af_ l0 x5_1).f0).toList != a1.toList) = true := bne_iff_ne.mpr c5
    have H' := Aside0.mk H
    clear H
    have p101 : 0 ≤ (x5_1 : Int) := of_decide_eq_true (by assumption)
    have q101 : x5_1 < (l0.length : Int) := of_decide_eq_true (by assumption)
    obtain ⟨ad101, e101, hx101_0, hx101_1, hx101_2, hx101_3⟩ := cm_ HR0.out x5_1 p101 q101
    cases e101
    replace p101 := eq_true p101
    replace q101 := eq_true q101
    go_wp2
    go_roundg k1
    case measure => have := HK1.out; omega
    case rel => exact ⟨(wrap64 (x5_1 + 1)), (by first | rfl | (simp; done) | (simp [*]; done)), H', ⟨by have := HK1.out; omega⟩, by repeat (first | exact av_.refl _ | apply av_.step)⟩
   rw [if_pos c5] at H
   have c5b0 : (((af_ l0 x5_1).f0).toList == a1.toList) = true := beq_iff_eq.mpr c5
   have c5b1 : (((af_ l0 x5_1).f0).toList != a1.toList) = false := bne_eq_false_iff_eq.mpr c5
   clear c5
   obtain rfl := Option.some.inj H
   have p101 : 0 ≤ (x5_1 : Int) := of_decide_eq_true (by assumption)
   have q101 : x5_1 < (l0.length : Int) := of_decide_eq_true (by assumption)
   obtain ⟨ad101, e101, hx101_0, hx101_1, hx101_2, hx101_3⟩ := cm_ HR0.out x5_1 p101 q101
   cases e101
   replace p101 := eq_true p101
   replace q101 := eq_true q101
   go_wp2
   go_ret
   exact ⟨by first | rfl | (simp; done) | (simp [*]; done), by repeat (first | exact av_.refl _ | apply av_.step)⟩
def bQ_.f (k : Nat) (l0 : List (S63)) (a1 : ByteArray) : Option (ByteArray × ByteArray × Int × Int) := (cj_.f k l0 a1).bind fun t102 => (if t102 < 0 then (some ((⟨#[]⟩ : ByteArray), (⟨#[]⟩ : ByteArray), 0, 0)) else (if 0 ≤ t102 then (if t102 < (l0.length : Int) then (some ((af_ l0 t102).f0, (af_ l0 t102).f1.f0, (af_ l0 t102).f1.f1, (af_ l0 t102).f1.f2)) else (none)) else (none)))
set_option maxHeartbeats 8000000 in
set_option maxRecDepth 100000 in
theorem bQ_.calls (k : Nat) (A0 : Option Addr) (c0 : Nat) (l0 : List (S63)) (a1 : ByteArray) (r1 : ByteArray) (r2 : ByteArray) (r3 : Int) (r4 : Int) (w : World) (hr0 : Kd.C k63 w A0 l0.length l0) (hc0 : l0.length ≤ c0) (h : bQ_.f k l0 a1 = some (r1, r2, r3, r4)) :
  Calls Try.prog 67 #[.slice A0 l0.length c0, .string a1] w fun e w' => e = .returned (.agg #[.string r1, .string r2, .int .i64 r3, .int .i64 r4]) ∧ Below w.heap.size w w' := by
 have hu63 := Try.underlying63
 have HR0 := Aside0.mk hr0
 have HC0 := Aside0.mk hc0
 clear hr0 hc0
 have HB := Aside0.mk (Below.refl w.heap.size w)
 have H : ((cj_.f k l0 a1).bind fun t102 => (if t102 < 0 then (some ((⟨#[]⟩ : ByteArray), (⟨#[]⟩ : ByteArray), 0, 0)) else (if 0 ≤ t102 then (if t102 < (l0.length : Int) then (some ((af_ l0 t102).f0, (af_ l0 t102).f1.f0, (af_ l0 t102).f1.f1, (af_ l0 t102).f1.f2)) else (none)) else (none)))) = some (r1, r2, r3, r4) := h
 clear h
 replace H := Option.bind_eq_some_iff.mp H
 obtain ⟨t102, A30, H⟩ := H
 (try dsimp only at H)
 have A3 := Aside0.mk A30
 clear A30
 have HC4 := Aside0.mk H
 clear H
 go_enter Try.func67, Try.ntmps67
 go_upto_if 10 with (first | ((with_reducible refine au_ (N := 4) rfl ?_); refine aQ_ ?hg (N := 4) ?hd (cs := #[.string (⟨#[]⟩ : ByteArray), .string (⟨#[]⟩ : ByteArray), .int .i64 0, .int .i64 0]) (t := 63) ?hr ?_; (case hd => rfl); (case hg => rfl); (case hr => (go_simp; try rfl)); intro gb101 hg w5 hbox hb; have BK101 := Aside0.mk (hbox); have GW101 := Aside0.mk ((by rw [hg]; exact (ae_ (bz HB.out)) : w.heap.size ≤ gb101)); have GE101 := Aside0.mk ((by rw [hg]; exact (ae_ (bz HB.out)) : w.heap.size ≤ gb101)); replace HB := Aside0.mk (ag_ (bz HB.out) hb); clear hb hbox hg) | ((with_reducible refine am_ (f := 87) rfl ?_); refine aX_ (some 8) rfl rfl Try.func87 (by kernel_rfl) rfl #[.slice A0 l0.length c0, .string a1] rfl (by first | rfl | (simp only [List.map_toArray, List.map_cons, List.map_nil]; first | done | rfl)) ?_; (with_reducible refine (cj_.calls k _ _ l0 a1 t102 _ ?side1 ?side2 A3.out).mono ?_); (case side1 => exact cz (Kd.bE_ HR0.out HB.out)); (case side2 => exact HC0.out); rintro e w' ⟨rfl, ⟨nd, rfl⟩⟩; refine ⟨_, rfl, ?_⟩; (try (rw [cV_ w5]; generalize hq_ : World.drewN w5 _ = w5; have n0_ : Aside0 (w5.heap[gb101]? = some (.cells #[.string (⟨#[]⟩ : ByteArray), .string (⟨#[]⟩ : ByteArray), .int .i64 0, .int .i64 0] 63 (0, 0))) := ⟨by rw [← hq_]; exact (kz BK101.out)⟩; have n1_ : Aside0 (Below w.heap.size w w5) := ⟨by rw [← hq_]; exact (by repeat (first | (with_reducible first | exact HB.out | apply bA_ | apply bN_ | apply bD_ | refine ac_ ?_ GE101.out) | exact HB.out))⟩; clear BK101 HB hq_; have BK101 := n0_; have HB := n1_; clear n0_ n1_))))
 (try simp only [Act.put, lsa_, ls0_, ls1_])
 have H := HC4.out
 clear HC4
 by_cases c6 : t102 < 0
 rotate_left
 ·rw [if_neg c6] at H
  have c6b0 : decide (t102 < 0) = false := decide_eq_false c6
  clear c6
  (first | rw [c6b0] | (simp only [i64_w, i32_w]; rw [c6b0]) | (simp only [c6b1, Bool.not_true, Bool.not_false]) | (simp only [c6b0, Bool.not_true, Bool.not_false]) | skip)
  by_cases c8 : 0 ≤ t102
  rotate_left
  ·rw [if_neg c8] at H
   exact absurd H (by simp)
  rw [if_pos c8] at H
  have c8b0 : decide (0 ≤ t102) = true := decide_eq_true c8
  clear c8
  by_cases c9 : t102 < (l0.length : Int)
  rotate_left
  ·rw [if_neg c9] at H
   exact absurd H (by simp)
  rw [if_pos c9] at H
  have c9b0 : decide (t102 < (l0.length : Int)) = true := decide_eq_true c9
  clear c9
  simp only [Option.some.injEq, Prod.mk.injEq] at H
  obtain ⟨rfl, rfl, rfl, rfl⟩ := H
  have p103 : 0 ≤ (t102 : Int) := of_decide_eq_true (by assumption)
  have q103 : t102 < (l0.length : Int) := of_decide_eq_true (by assumption)
  obtain ⟨ad103, e103, hx103_0, hx103_1, hx103_2, hx103_3⟩ := cm_ HR0.out t102 p103 q103
  cases e103
  replace hx103_0 := (HB.out.cell (bl_ w _ hx103_0)).trans hx103_0
  replace hx103_1 := (HB.out.cell (bl_ w _ hx103_1)).trans hx103_1
  replace hx103_2 := (HB.out.cell (bl_ w _ hx103_2)).trans hx103_2
  replace hx103_3 := (HB.out.cell (bl_ w _ hx103_3)).trans hx103_3
  replace p103 := eq_true p103
  replace q103 := eq_true q103
  have hcz10_0 : w5.cell? ⟨gb101, 0, none⟩ = some (.string (⟨#[]⟩ : ByteArray)) := (ab_ BK101.out 0).trans rfl
  have hcz10_1 : w5.cell? ⟨gb101, 1, none⟩ = some (.string (⟨#[]⟩ : ByteArray)) := (ab_ BK101.out 1).trans rfl
  have hcz10_2 : w5.cell? ⟨gb101, 2, none⟩ = some (.int .i64 0) := (ab_ BK101.out 2).trans rfl
  have hcz10_3 : w5.cell? ⟨gb101, 3, none⟩ = some (.int .i64 0) := (ab_ BK101.out 3).trans rfl
  have hfz10_0 := aa_ BK101.out 0
  have hfz10_1 := aa_ BK101.out 1
  have hfz10_2 := aa_ BK101.out 2
  have hfz10_3 := aa_ BK101.out 3
  go_wp2
  refine bodyPost_ret (results_cell_row rfl _ _ gb101 63 #[.string ((af_ l0 t102).f0), .string ((af_ l0 t102).f1.f0), .int .i64 ((af_ l0 t102).f1.f1), .int .i64 ((af_ l0 t102).f1.f2)] (0, 0) _ rfl (by (with_reducible repeat (first | refine ai_ ?_ _ | refine aj_ ?_ | refine ah_ ?_ _)); refine aB_ (cs := #[.string ((af_ l0 t102).f0), .string ((af_ l0 t102).f1.f0), .int .i64 ((af_ l0 t102).f1.f1), .int .i64 0]) ?_ 3 _ rfl; (with_reducible repeat (first | refine ai_ ?_ _ | refine aj_ ?_ | refine ah_ ?_ _)); refine aB_ (cs := #[.string ((af_ l0 t102).f0), .string ((af_ l0 t102).f1.f0), .int .i64 0, .int .i64 0]) ?_ 2 _ rfl; (with_reducible repeat (first | refine ai_ ?_ _ | refine aj_ ?_ | refine ah_ ?_ _)); refine aB_ (cs := #[.string ((af_ l0 t102).f0), .string (⟨#[]⟩ : ByteArray), .int .i64 0, .int .i64 0]) ?_ 1 _ rfl; (with_reducible repeat (first | refine ai_ ?_ _ | refine aj_ ?_ | refine ah_ ?_ _)); refine aB_ (cs := #[.string (⟨#[]⟩ : ByteArray), .string (⟨#[]⟩ : ByteArray), .int .i64 0, .int .i64 0]) ?_ 0 _ rfl; (with_reducible repeat (first | refine ai_ ?_ _ | refine aj_ ?_ | refine ah_ ?_ _)); exact BK101.out) Try.underlying63 rfl (by kernel_rfl)) rfl ?_
  exact ⟨by first | rfl | (simp [*, an_, ao_] <;> rfl), by repeat (first | (with_reducible first | exact HB.out | apply bA_ | apply bN_ | apply bD_ | refine ac_ ?_ GE101.out) | exact HB.out)⟩
 rw [if_pos c6] at H
 have c6b0 : decide (t102 < 0) = true := decide_eq_true c6
 clear c6
 (first | rw [c6b0] | (simp only [i64_w, i32_w]; rw [c6b0]) | (simp only [c6b1, Bool.not_true, Bool.not_false]) | (simp only [c6b0, Bool.not_true, Bool.not_false]) | skip)
 simp only [Option.some.injEq, Prod.mk.injEq] at H
 obtain ⟨rfl, rfl, rfl, rfl⟩ := H
 have hcz7_0 : w5.cell? ⟨gb101, 0, none⟩ = some (.string (⟨#[]⟩ : ByteArray)) := (ab_ BK101.out 0).trans rfl
 have hcz7_1 : w5.cell? ⟨gb101, 1, none⟩ = some (.string (⟨#[]⟩ : ByteArray)) := (ab_ BK101.out 1).trans rfl
 have hcz7_2 : w5.cell? ⟨gb101, 2, none⟩ = some (.int .i64 0) := (ab_ BK101.out 2).trans rfl
 have hcz7_3 : w5.cell? ⟨gb101, 3, none⟩ = some (.int .i64 0) := (ab_ BK101.out 3).trans rfl
 have hfz7_0 := aa_ BK101.out 0
 have hfz7_1 := aa_ BK101.out 1
 have hfz7_2 := aa_ BK101.out 2
 have hfz7_3 := aa_ BK101.out 3
 go_wp2
 refine bodyPost_ret (results_cell_row rfl _ _ gb101 63 #[.string (⟨#[]⟩ : ByteArray), .string (⟨#[]⟩ : ByteArray), .int .i64 0, .int .i64 0] (0, 0) _ rfl (by (with_reducible repeat (first | refine ai_ ?_ _ | refine aj_ ?_ | refine ah_ ?_ _)); refine aB_ (cs := #[.string (⟨#[]⟩ : ByteArray), .string (⟨#[]⟩ : ByteArray), .int .i64 0, .int .i64 0]) ?_ 3 _ rfl; (with_reducible repeat (first | refine ai_ ?_ _ | refine aj_ ?_ | refine ah_ ?_ _)); refine aB_ (cs := #[.string (⟨#[]⟩ : ByteArray), .string (⟨#[]⟩ : ByteArray), .int .i64 0, .int .i64 0]) ?_ 2 _ rfl; (with_reducible repeat (first | refine ai_ ?_ _ | refine aj_ ?_ | refine ah_ ?_ _)); refine aB_ (cs := #[.string (⟨#[]⟩ : ByteArray), .string (⟨#[]⟩ : ByteArray), .int .i64 0, .int .i64 0]) ?_ 1 _ rfl; (with_reducible repeat (first | refine ai_ ?_ _ | refine aj_ ?_ | refine ah_ ?_ _)); refine aB_ (cs := #[.string (⟨#[]⟩ : ByteArray), .string (⟨#[]⟩ : ByteArray), .int .i64 0, .int .i64 0]) ?_ 0 _ rfl; (with_reducible repeat (first | refine ai_ ?_ _ | refine aj_ ?_ | refine ah_ ?_ _)); exact BK101.out) Try.underlying63 rfl (by kernel_rfl)) rfl ?_
 exact ⟨by first | rfl | (simp [*, an_, ao_] <;> rfl), by repeat (first | (with_reducible first | exact HB.out | apply bA_ | apply bN_ | apply bD_ | refine ac_ ?_ GE101.out) | exact HB.out)⟩
end Go.Proofs.Ytiheginanghhjaa.Q
namespace Go.Proofs.Ytiheginanghhjaa.Q
open Go.RowKit Go.Proofs.YtiheginanghhjaaW.PrintWords Go.Proofs.YtiheginanghhjaaW.PrintLast Go.Proofs.YtiheginanghhjaaW.PrintMore
attribute [local go_sem] aN_ aL_ bi_ bh_ aA_ az_ aO_ aM_
attribute [local go_sem high] eqA63
def bq_.l0 : Nat → List (S63) → List (S63) → List (S63) → List ByteArray → List ByteArray → Int → Option (List ByteArray)
 | 0, _, _, _, _, _, _ => none
 | k + 1, x0, x1, x2, x7, x8, x9 => if x9 < (x7.length : Int) then (if 0 ≤ x9 then ((bQ_.f k x0 (rdOf ByteArray.empty x7 x9)).bind fun bt108 => ((bQ_.f k x1 (rdOf ByteArray.empty x7 x9)).bind fun bt114 => ((bQ_.f k x2 (rdOf ByteArray.empty x7 x9)).bind fun bt120 => (if (!(bt108.1.toList == bt114.1.toList) || ((!(bt108.2.1.toList == bt114.2.1.toList) || (!(bt108.2.2.1 == bt114.2.2.1) || (!(bt108.2.2.2 == bt114.2.2.2)))))) = true then (if (!(bt108.1.toList == bt120.1.toList) || ((!(bt108.2.1.toList == bt120.2.1.toList) || (!(bt108.2.2.1 == bt120.2.2.1) || (!(bt108.2.2.2 == bt120.2.2.2)))))) = true then (if (!(bt114.1.toList == bt120.1.toList) || ((!(bt114.2.1.toList == bt120.2.1.toList) || (!(bt114.2.2.1 == bt120.2.2.1) || (!(bt114.2.2.2 == bt120.2.2.2)))))) = true then (if x8.length < 8796093022208 then (bq_.l0 k x0 x1 x2 x7 (x8 ++ [rdOf ByteArray.empty x7 x9]) (wrap64 (x9 + 1))) else (none)) else (bq_.l0 k x0 x1 x2 x7 x8 (wrap64 (x9 + 1)))) else (bq_.l0 k x0 x1 x2 x7 x8 (wrap64 (x9 + 1)))) else (bq_.l0 k x0 x1 x2 x7 x8 (wrap64 (x9 + 1))))))) else (none)) else (some x8)
def bq_.f (k : Nat) (l0 : List (S63)) (l1 : List (S63)) (l2 : List (S63)) : Option (List ByteArray) := (ax_.f k l0 l1 l2).bind fun t101 => (bq_.l0 k l0 l1 l2 t101 (([] : List ByteArray)) 0)
set_option maxHeartbeats 8000000 in
set_option maxRecDepth 100000 in
theorem bq_.calls (k : Nat) (A0 : Option Addr) (c0 : Nat) (l0 : List (S63)) (A1 : Option Addr) (c1 : Nat) (l1 : List (S63)) (A2 : Option Addr) (c2 : Nat) (l2 : List (S63)) (r : List ByteArray) (w : World) (hr0 : Kd.C k63 w A0 l0.length l0) (hc0 : l0.length ≤ c0) (hr1 : Kd.C k63 w A1 l1.length l1) (hc1 : l1.length ≤ c1) (hr2 : Kd.C k63 w A2 l2.length l2) (hc2 : l2.length ≤ c2) (h : bq_.f k l0 l1 l2 = some r) :
  Calls Try.prog 37 #[.slice A0 l0.length c0, .slice A1 l1.length c1, .slice A2 l2.length c2] w fun e w' => ∃ v0_ : Value, e = .returned (v0_) ∧ Kd.R Kd.string 9 w' w.heap.size (fun _ => True) v0_ r ∧ Below w.heap.size w w' := by
 have hu63 := Try.underlying63
 have HR0 := Aside0.mk hr0
 have HC0 := Aside0.mk hc0
 clear hr0 hc0
 have HR1 := Aside0.mk hr1
 have HC1 := Aside0.mk hc1
 clear hr1 hc1
 have HR2 := Aside0.mk hr2
 have HC2 := Aside0.mk hc2
 clear hr2 hc2
 have HB := Aside0.mk (Below.refl w.heap.size w)
 have H : ((ax_.f k l0 l1 l2).bind fun t101 => (bq_.l0 k l0 l1 l2 t101 (([] : List ByteArray)) 0)) = some r := h
 clear h
 replace H := Option.bind_eq_some_iff.mp H
 obtain ⟨t101, A40, H⟩ := H
 (try dsimp only at H)
 have A4 := Aside0.mk A40
 clear A40
 obtain ⟨y104, hy104⟩ : ∃ y_ : List ByteArray, y_ = (([] : List ByteArray)) := ⟨_, rfl⟩
 replace H : (bq_.l0 k l0 l1 l2 t101 y104 0) = some r := by first | (rw [hy104]; with_reducible exact H) | (have H2_ := (Option.bind_some _ _).symm.trans H; rw [hy104]; with_reducible exact H2_) | (have H2_ := (Option.bind_some _ _).symm.trans H; with_reducible exact H2_) | with_reducible exact H | (rw [hy104]; exact H) | exact H
 have Ny104 := Aside0.mk hy104
 clear hy104
 have H' := Aside0.mk H
 clear H
 go_enter Try.func37, Try.ntmps37
 go_wp2_with (first | ((with_reducible refine am_ (f := 66) rfl ?_); refine aX_ (some 16) rfl rfl Try.func66 (by kernel_rfl) rfl #[.slice A0 l0.length c0, .slice A1 l1.length c1, .slice A2 l2.length c2] rfl (by first | rfl | (simp only [List.map_toArray, List.map_cons, List.map_nil]; first | done | rfl)) ?_; (with_reducible refine (ax_.calls k _ _ l0 _ _ l1 _ _ l2 t101 _ ?side1 ?side2 ?side3 ?side4 ?side5 ?side6 A4.out).mono ?_); (case side1 => exact cz HR0.out); (case side2 => exact HC0.out); (case side3 => exact cz HR1.out); (case side4 => exact HC1.out); (case side5 => exact cz HR2.out); (case side6 => exact HC2.out); rintro e w5 ⟨v102, rfl, ho0, hb⟩; refine ⟨_, rfl, ?_⟩; have HO103 := Aside0.mk (Kd.bI_ ho0 (ae_ (bz HB.out))); replace HB := Aside0.mk (ag_ (bz HB.out) hb); (try clear hb); (try clear ho0)) | ((with_reducible refine au_ (N := 17) rfl ?_); refine Kd.R_lit Kd.string _ 9 ?hg (N := 17) ?hd (xs := ([] : List ByteArray)) (inner := []) (ok := fun _ => True) (okp := fun _ => True) ?hr ?hp (fun _ hk => hk) trivial (Below.refl _ _) (Nat.le_refl _) (by simp) ?_; (case hd => rfl); (case hg => rfl); (case hr => (go_simp; try rfl)); (case hp => exact (Reps.none _ _)); intro v105 w6 ho7 hb hg_ hnew_; clear hg_ hnew_; (first | rw [← Ny104.out] at ho7 | (simp only [Int.reduceToNat] at ho7; rw [← Ny104.out] at ho7)); have HO106 := Aside0.mk (Kd.bI_ (Kd.bU_ ho7 (Kd.R_lt (rz HO103.out))) (ae_ (bz HB.out))); replace HO103 := Aside0.mk (Kd.bo_ (rz HO103.out) (Kd.bv_ ho7) hb); replace HB := Aside0.mk (ag_ (bz HB.out) hb); clear hb ho7))
 (try simp only [Act.put, lsa_, ls0_, ls1_])
 go_loopg [8, 9] k (fun kq v8 v9 w' => ∃ (x8_1 : List ByteArray) (x9_1 : Int), v9 = .int .i64 x9_1 ∧ Aside0 (bq_.l0 kq l0 l1 l2 t101 x8_1 x9_1 = some r) ∧ Aside0 (kq ≤ k) ∧ Aside0 (Kd.R Kd.string 9 w' w.heap.size (fun k_ => some k_ ≠ (v8 : Value).ownBlock) v102 t101) ∧ Aside0 (Kd.R Kd.string 9 w' w.heap.size (fun k_ => some k_ ≠ (v102 : Value).ownBlock) v8 x8_1) ∧ Aside0 (Below w.heap.size w w'))
 case atStart => exact ⟨(y104), (0), (by first | rfl | (simp; done) | (simp [*]; done)), H', ⟨Nat.le_refl _⟩, ⟨rz (Kd.aK_ HO103.out (fun _ hk => hk.2))⟩, ⟨rz (Kd.aK_ HO106.out (fun _ hk => hk.2))⟩, ⟨bz HB.out⟩⟩
 case round =>
  clear H'
  obtain ⟨x8_1, x9_1, rfl, HA, HK1, HO_7, HO_8, HB⟩ := hrel
  cases gk with
  | zero => exact absurd HA.out (by simp [bq_.l0])
  | succ k1 =>
   have H := HA.out
   clear HA
   simp only [bq_.l0] at H
   by_cases c8 : x9_1 < (t101.length : Int)
   rotate_left
   ·rw [if_neg c8] at H
    have c8b0 : decide (x9_1 < (t101.length : Int)) = false := decide_eq_false c8
    clear c8
    obtain rfl := Option.some.inj H
    obtain ⟨Ao64, co64, eo64⟩ := Kd.bF_ HO_7.out
    subst eo64
    go_wp2
    go_ret
    exact ⟨_, by first | rfl | (simp [*, an_, ao_] <;> rfl), rz (Kd.aK_ HO_8.out (fun _ hk => trivial)), bz HB.out⟩
   rw [if_pos c8] at H
   have c8b0 : decide (x9_1 < (t101.length : Int)) = true := decide_eq_true c8
   clear c8
   by_cases c9 : 0 ≤ x9_1
   rotate_left
   ·rw [if_neg c9] at H
    exact absurd H (by simp)
   rw [if_pos c9] at H
   have c9b0 : decide (0 ≤ x9_1) = true := decide_eq_true c9
   clear c9
   replace H := Option.bind_eq_some_iff.mp H
   obtain ⟨⟨t108, t109, t110, t111⟩, A100, H⟩ := H
   (try dsimp only at H)
   have A10 := Aside0.mk A100
   clear A100
   replace H := Option.bind_eq_some_iff.mp H
   obtain ⟨⟨t114, t115, t116, t117⟩, A110, H⟩ := H
   (try dsimp only at H)
   have A11 := Aside0.mk A110
   clear A110
   replace H := Option.bind_eq_some_iff.mp H
   obtain ⟨⟨t120, t121, t122, t123⟩, A120, H⟩ := H
   (try dsimp only at H)
   have A12 := Aside0.mk A120
   clear A120
   by_cases c13 : (!(t108.toList == t114.toList) || ((!(t109.toList == t115.toList) || (!(t110 == t116) || (!(t111 == t117)))))) = true
   rotate_left
   ·rw [if_neg c13] at H
    have c13b0 : (!(t108.toList == t114.toList) || ((!(t109.toList == t115.toList) || (!(t110 == t116) || (!(t111 == t117)))))) = false := by simpa using c13
    clear c13
    have H' := Aside0.mk H
    clear H
    obtain ⟨Ao49, co49, eo49⟩ := Kd.bF_ HO_7.out
    subst eo49
    have p107 : 0 ≤ (x9_1 : Int) := of_decide_eq_true (by assumption)
    have q107 : x9_1 < (t101.length : Int) := of_decide_eq_true (by assumption)
    obtain ⟨ad107, e107, hx107_0⟩ := Kd.co_ (Kd.bf_ HO_7.out).2.2 x9_1 p107 q107
    cases e107
    replace p107 := eq_true p107
    replace q107 := eq_true q107
    go_wp2_with (first | ((with_reducible refine am_ (f := 67) rfl ?_); refine aX_ (some 29) rfl rfl Try.func67 (by kernel_rfl) rfl #[.slice A0 l0.length c0, .string (rdOf ByteArray.empty t101 x9_1)] rfl (by first | rfl | (simp only [List.map_toArray, List.map_cons, List.map_nil]; first | done | rfl)) ?_; (with_reducible refine (bQ_.calls k1 _ _ l0 (rdOf ByteArray.empty t101 x9_1) t108 t109 t110 t111 _ ?side1 ?side2 A10.out).mono ?_); (case side1 => exact cz (Kd.bE_ HR0.out HB.out)); (case side2 => exact HC0.out); rintro e w50 ⟨rfl, hb⟩; refine ⟨_, rfl, ?_⟩; replace HO_7 := Aside0.mk (Kd.aH_ (rz HO_7.out) hb); replace HO_8 := Aside0.mk (Kd.aH_ (rz HO_8.out) hb); replace HB := Aside0.mk (ag_ (bz HB.out) hb); (try clear hb)) | ((with_reducible refine au_ (N := 10) rfl ?_); refine aQ_ ?hg (N := 10) ?hd (cs := #[.string (⟨#[]⟩ : ByteArray), .string (⟨#[]⟩ : ByteArray), .int .i64 0, .int .i64 0]) (t := 63) ?hr ?_; (case hd => rfl); (case hg => rfl); (case hr => (go_simp; try rfl)); intro gb112 hg w51 hbox hb; replace HO_7 := Aside0.mk (Kd.aH_ (rz HO_7.out) hb); replace HO_8 := Aside0.mk (Kd.aH_ (rz HO_8.out) hb); have BK112 := Aside0.mk (hbox); have GW112 := Aside0.mk ((by rw [hg]; exact (ae_ (bz HB.out)) : w.heap.size ≤ gb112)); have GE112 := Aside0.mk ((by rw [hg]; exact (ae_ (bz HB.out)) : w.heap.size ≤ gb112)); replace HB := Aside0.mk (ag_ (bz HB.out) hb); clear hb hbox hg; have hcz52_0 : w51.cell? ⟨gb112, 0, none⟩ = some (.string (⟨#[]⟩ : ByteArray)) := (ab_ BK112.out 0).trans rfl; have hcz52_1 : w51.cell? ⟨gb112, 1, none⟩ = some (.string (⟨#[]⟩ : ByteArray)) := (ab_ BK112.out 1).trans rfl; have hcz52_2 : w51.cell? ⟨gb112, 2, none⟩ = some (.int .i64 0) := (ab_ BK112.out 2).trans rfl; have hcz52_3 : w51.cell? ⟨gb112, 3, none⟩ = some (.int .i64 0) := (ab_ BK112.out 3).trans rfl; have hfz52_0 := aa_ BK112.out 0; have hfz52_1 := aa_ BK112.out 1; have hfz52_2 := aa_ BK112.out 2; have hfz52_3 := aa_ BK112.out 3; have p113 : 0 ≤ (x9_1 : Int) := of_decide_eq_true (by assumption); have q113 : x9_1 < (t101.length : Int) := of_decide_eq_true (by assumption); obtain ⟨ad113, e113, hx113_0⟩ := Kd.co_ (Kd.bf_ HO_7.out).2.2 x9_1 p113 q113; obtain rfl : ad107 = ad113 := (by injection e113); have hn113_0 : ad107.block ≠ gb112 := Kd.cn_ (Kd.R_ne HO_7.out BK112.out (by decide)); have hn113_1 : ad107.block ≠ gb112 := Kd.cn_ (Kd.R_ne HO_7.out BK112.out (by decide)); have hn113_2 : ad107.block ≠ gb112 := Kd.cn_ (Kd.R_ne HO_7.out BK112.out (by decide)); have hn113_3 : ad107.block ≠ gb112 := Kd.cn_ (Kd.R_ne HO_7.out BK112.out (by decide)); replace hx113_0 := (cell_far (p := ⟨gb112, 0, none⟩) (by first | (rw [add_block]; exact hn113_0) | (show (Addr.add _ _).block ≠ _; rw [add_block]; exact hn113_0) | exact hn113_0) (.string t108)).trans hx113_0; replace hx113_0 := (cell_far (p := ⟨gb112, 1, none⟩) (by first | (rw [add_block]; exact hn113_1) | (show (Addr.add _ _).block ≠ _; rw [add_block]; exact hn113_1) | exact hn113_1) (.string t109)).trans hx113_0; replace hx113_0 := (cell_far (p := ⟨gb112, 2, none⟩) (by first | (rw [add_block]; exact hn113_2) | (show (Addr.add _ _).block ≠ _; rw [add_block]; exact hn113_2) | exact hn113_2) (.int .i64 t110)).trans hx113_0; replace hx113_0 := (cell_far (p := ⟨gb112, 3, none⟩) (by first | (rw [add_block]; exact hn113_3) | (show (Addr.add _ _).block ≠ _; rw [add_block]; exact hn113_3) | exact hn113_3) (.int .i64 t111)).trans hx113_0; clear hn113_0; clear hn113_1; clear hn113_2; clear hn113_3; replace p113 := eq_true p113; replace q113 := eq_true q113) | ((with_reducible refine am_ (f := 67) rfl ?_); refine aX_ (some 35) rfl rfl Try.func67 (by kernel_rfl) rfl #[.slice A1 l1.length c1, .string (rdOf ByteArray.empty t101 x9_1)] rfl (by first | rfl | (simp only [List.map_toArray, List.map_cons, List.map_nil]; first | done | rfl)) ?_; (with_reducible refine (bQ_.calls k1 _ _ l1 (rdOf ByteArray.empty t101 x9_1) t114 t115 t116 t117 _ ?side1 ?side2 A11.out).mono ?_); (case side1 => exact Kd.bE_ HR1.out (by repeat (first | (with_reducible first | exact HB.out | apply bA_ | apply bN_ | apply bD_ | refine ac_ ?_ GE112.out) | exact HB.out))); (case side2 => exact HC1.out); rintro e w53 ⟨rfl, hb⟩; refine ⟨_, rfl, ?_⟩; replace HO_7 := Aside0.mk (Kd.aH_ (rz (Kd.aK_ (Kd.R_far (p := ⟨gb112, 3, none⟩) (Kd.R_far (p := ⟨gb112, 2, none⟩) (Kd.R_far (p := ⟨gb112, 1, none⟩) (Kd.R_far (p := ⟨gb112, 0, none⟩) (Kd.bp_ HO_7.out BK112.out (by decide)) (fun _ hk => hk.2) (.string t108)) (fun _ hk => hk.2) (.string t109)) (fun _ hk => hk.2) (.int .i64 t110)) (fun _ hk => hk.2) (.int .i64 t111)) (fun _ h_ => h_.1))) hb); replace HO_8 := Aside0.mk (Kd.aH_ (rz (Kd.aK_ (Kd.R_far (p := ⟨gb112, 3, none⟩) (Kd.R_far (p := ⟨gb112, 2, none⟩) (Kd.R_far (p := ⟨gb112, 1, none⟩) (Kd.R_far (p := ⟨gb112, 0, none⟩) (Kd.bp_ HO_8.out BK112.out (by decide)) (fun _ hk => hk.2) (.string t108)) (fun _ hk => hk.2) (.string t109)) (fun _ hk => hk.2) (.int .i64 t110)) (fun _ hk => hk.2) (.int .i64 t111)) (fun _ h_ => h_.1))) hb); replace BK112 := Aside0.mk (aG_ (g := gb112) (o := .cells #[.string t108, .string t109, .int .i64 t110, .int .i64 t111] 63 (0, 0)) (by (with_reducible repeat (first | refine ai_ ?_ _ | refine aj_ ?_ | refine ah_ ?_ _)); refine aB_ (cs := #[.string t108, .string t109, .int .i64 t110, .int .i64 0]) ?_ 3 _ rfl; (with_reducible repeat (first | refine ai_ ?_ _ | refine aj_ ?_ | refine ah_ ?_ _)); refine aB_ (cs := #[.string t108, .string t109, .int .i64 0, .int .i64 0]) ?_ 2 _ rfl; (with_reducible repeat (first | refine ai_ ?_ _ | refine aj_ ?_ | refine ah_ ?_ _)); refine aB_ (cs := #[.string t108, .string (⟨#[]⟩ : ByteArray), .int .i64 0, .int .i64 0]) ?_ 1 _ rfl; (with_reducible repeat (first | refine ai_ ?_ _ | refine aj_ ?_ | refine ah_ ?_ _)); refine aB_ (cs := #[.string (⟨#[]⟩ : ByteArray), .string (⟨#[]⟩ : ByteArray), .int .i64 0, .int .i64 0]) ?_ 0 _ rfl; (with_reducible repeat (first | refine ai_ ?_ _ | refine aj_ ?_ | refine ah_ ?_ _)); exact BK112.out) hb); replace HB := Aside0.mk (ag_ (by repeat (first | (with_reducible first | exact HB.out | apply bA_ | apply bN_ | apply bD_ | refine ac_ ?_ GE112.out) | exact HB.out)) hb); (try clear hb)) | ((with_reducible refine au_ (N := 11) rfl ?_); refine aQ_ ?hg (N := 11) ?hd (cs := #[.string (⟨#[]⟩ : ByteArray), .string (⟨#[]⟩ : ByteArray), .int .i64 0, .int .i64 0]) (t := 63) ?hr ?_; (case hd => rfl); (case hg => rfl); (case hr => (go_simp; try rfl)); intro gb118 hg w54 hbox hb; replace HO_7 := Aside0.mk (Kd.aH_ (rz HO_7.out) hb); replace HO_8 := Aside0.mk (Kd.aH_ (rz HO_8.out) hb); have BK118 := Aside0.mk (hbox); have GW118 := Aside0.mk ((by rw [hg]; exact (ae_ (by repeat (first | (with_reducible first | exact HB.out | apply bA_ | apply bN_ | apply bD_ | refine ac_ ?_ GE112.out) | exact HB.out))) : w.heap.size ≤ gb118)); have GE118 := Aside0.mk ((by rw [hg]; exact (ae_ (by repeat (first | (with_reducible first | exact HB.out | apply bA_ | apply bN_ | apply bD_ | refine ac_ ?_ GE112.out) | exact HB.out))) : w.heap.size ≤ gb118)); replace HB := Aside0.mk (ag_ (by repeat (first | (with_reducible first | exact HB.out | apply bA_ | apply bN_ | apply bD_ | refine ac_ ?_ GE112.out) | exact HB.out)) hb); have NB112_118 := Aside0.mk ((by rw [hg]; exact Nat.ne_of_lt (bM_ (g := gb112) (o := .cells #[.string t108, .string t109, .int .i64 t110, .int .i64 t111] 63 (0, 0)) (kz BK112.out)) : gb112 ≠ gb118)); have NB118_112 := Aside0.mk ((by rw [hg]; exact Nat.ne_of_gt (bM_ (g := gb112) (o := .cells #[.string t108, .string t109, .int .i64 t110, .int .i64 t111] 63 (0, 0)) (kz BK112.out)) : gb118 ≠ gb112)); replace BK112 := Aside0.mk (aG_ (g := gb112) (o := .cells #[.string t108, .string t109, .int .i64 t110, .int .i64 t111] 63 (0, 0)) (kz BK112.out) hb); clear hb hbox hg; have hnb55 := NB118_112.out; have hnc55 := NB112_118.out; have hcz56_0 : w54.cell? ⟨gb118, 0, none⟩ = some (.string (⟨#[]⟩ : ByteArray)) := (ab_ BK118.out 0).trans rfl; have hcz56_1 : w54.cell? ⟨gb118, 1, none⟩ = some (.string (⟨#[]⟩ : ByteArray)) := (ab_ BK118.out 1).trans rfl; have hcz56_2 : w54.cell? ⟨gb118, 2, none⟩ = some (.int .i64 0) := (ab_ BK118.out 2).trans rfl; have hcz56_3 : w54.cell? ⟨gb118, 3, none⟩ = some (.int .i64 0) := (ab_ BK118.out 3).trans rfl; have hfz56_0 := aa_ BK118.out 0; have hfz56_1 := aa_ BK118.out 1; have hfz56_2 := aa_ BK118.out 2; have hfz56_3 := aa_ BK118.out 3; have p119 : 0 ≤ (x9_1 : Int) := of_decide_eq_true (by assumption); have q119 : x9_1 < (t101.length : Int) := of_decide_eq_true (by assumption); obtain ⟨ad119, e119, hx119_0⟩ := Kd.co_ (Kd.bf_ HO_7.out).2.2 x9_1 p119 q119; obtain rfl : ad107 = ad119 := (by injection e119); have hn119_0 : ad107.block ≠ gb118 := Kd.cn_ (Kd.R_ne HO_7.out BK118.out (by decide)); have hn119_1 : ad107.block ≠ gb118 := Kd.cn_ (Kd.R_ne HO_7.out BK118.out (by decide)); have hn119_2 : ad107.block ≠ gb118 := Kd.cn_ (Kd.R_ne HO_7.out BK118.out (by decide)); have hn119_3 : ad107.block ≠ gb118 := Kd.cn_ (Kd.R_ne HO_7.out BK118.out (by decide)); replace hx119_0 := (cell_far (p := ⟨gb118, 0, none⟩) (by first | (rw [add_block]; exact hn119_0) | (show (Addr.add _ _).block ≠ _; rw [add_block]; exact hn119_0) | exact hn119_0) (.string t114)).trans hx119_0; replace hx119_0 := (cell_far (p := ⟨gb118, 1, none⟩) (by first | (rw [add_block]; exact hn119_1) | (show (Addr.add _ _).block ≠ _; rw [add_block]; exact hn119_1) | exact hn119_1) (.string t115)).trans hx119_0; replace hx119_0 := (cell_far (p := ⟨gb118, 2, none⟩) (by first | (rw [add_block]; exact hn119_2) | (show (Addr.add _ _).block ≠ _; rw [add_block]; exact hn119_2) | exact hn119_2) (.int .i64 t116)).trans hx119_0; replace hx119_0 := (cell_far (p := ⟨gb118, 3, none⟩) (by first | (rw [add_block]; exact hn119_3) | (show (Addr.add _ _).block ≠ _; rw [add_block]; exact hn119_3) | exact hn119_3) (.int .i64 t117)).trans hx119_0; clear hn119_0; clear hn119_1; clear hn119_2; clear hn119_3; replace p119 := eq_true p119; replace q119 := eq_true q119) | ((with_reducible refine am_ (f := 67) rfl ?_); refine aX_ (some 41) rfl rfl Try.func67 (by kernel_rfl) rfl #[.slice A2 l2.length c2, .string (rdOf ByteArray.empty t101 x9_1)] rfl (by first | rfl | (simp only [List.map_toArray, List.map_cons, List.map_nil]; first | done | rfl)) ?_; (with_reducible refine (bQ_.calls k1 _ _ l2 (rdOf ByteArray.empty t101 x9_1) t120 t121 t122 t123 _ ?side1 ?side2 A12.out).mono ?_); (case side1 => exact Kd.bE_ HR2.out (by repeat (first | (with_reducible first | exact HB.out | apply bA_ | apply bN_ | apply bD_ | refine ac_ ?_ GE112.out | refine ac_ ?_ GE118.out) | exact HB.out))); (case side2 => exact HC2.out); rintro e w57 ⟨rfl, hb⟩; refine ⟨_, rfl, ?_⟩; replace HO_7 := Aside0.mk (Kd.aH_ (rz (Kd.aK_ (Kd.R_far (p := ⟨gb118, 3, none⟩) (Kd.R_far (p := ⟨gb118, 2, none⟩) (Kd.R_far (p := ⟨gb118, 1, none⟩) (Kd.R_far (p := ⟨gb118, 0, none⟩) (Kd.bp_ HO_7.out BK118.out (by decide)) (fun _ hk => hk.2) (.string t114)) (fun _ hk => hk.2) (.string t115)) (fun _ hk => hk.2) (.int .i64 t116)) (fun _ hk => hk.2) (.int .i64 t117)) (fun _ h_ => h_.1))) hb); replace HO_8 := Aside0.mk (Kd.aH_ (rz (Kd.aK_ (Kd.R_far (p := ⟨gb118, 3, none⟩) (Kd.R_far (p := ⟨gb118, 2, none⟩) (Kd.R_far (p := ⟨gb118, 1, none⟩) (Kd.R_far (p := ⟨gb118, 0, none⟩) (Kd.bp_ HO_8.out BK118.out (by decide)) (fun _ hk => hk.2) (.string t114)) (fun _ hk => hk.2) (.string t115)) (fun _ hk => hk.2) (.int .i64 t116)) (fun _ hk => hk.2) (.int .i64 t117)) (fun _ h_ => h_.1))) hb); replace BK112 := Aside0.mk (aG_ (g := gb112) (o := .cells #[.string t108, .string t109, .int .i64 t110, .int .i64 t111] 63 (0, 0)) (by (with_reducible repeat (first | refine ai_ ?_ _ | refine aj_ ?_ | refine ah_ ?_ _)); refine bG_ ?_ NB112_118.out _; (with_reducible repeat (first | refine ai_ ?_ _ | refine aj_ ?_ | refine ah_ ?_ _)); refine bG_ ?_ NB112_118.out _; (with_reducible repeat (first | refine ai_ ?_ _ | refine aj_ ?_ | refine ah_ ?_ _)); refine bG_ ?_ NB112_118.out _; (with_reducible repeat (first | refine ai_ ?_ _ | refine aj_ ?_ | refine ah_ ?_ _)); refine bG_ ?_ NB112_118.out _; (with_reducible repeat (first | refine ai_ ?_ _ | refine aj_ ?_ | refine ah_ ?_ _)); exact BK112.out) hb); replace BK118 := Aside0.mk (aG_ (g := gb118) (o := .cells #[.string t114, .string t115, .int .i64 t116, .int .i64 t117] 63 (0, 0)) (by (with_reducible repeat (first | refine ai_ ?_ _ | refine aj_ ?_ | refine ah_ ?_ _)); refine aB_ (cs := #[.string t114, .string t115, .int .i64 t116, .int .i64 0]) ?_ 3 _ rfl; (with_reducible repeat (first | refine ai_ ?_ _ | refine aj_ ?_ | refine ah_ ?_ _)); refine aB_ (cs := #[.string t114, .string t115, .int .i64 0, .int .i64 0]) ?_ 2 _ rfl; (with_reducible repeat (first | refine ai_ ?_ _ | refine aj_ ?_ | refine ah_ ?_ _)); refine aB_ (cs := #[.string t114, .string (⟨#[]⟩ : ByteArray), .int .i64 0, .int .i64 0]) ?_ 1 _ rfl; (with_reducible repeat (first | refine ai_ ?_ _ | refine aj_ ?_ | refine ah_ ?_ _)); refine aB_ (cs := #[.string (⟨#[]⟩ : ByteArray), .string (⟨#[]⟩ : ByteArray), .int .i64 0, .int .i64 0]) ?_ 0 _ rfl; (with_reducible repeat (first | refine ai_ ?_ _ | refine aj_ ?_ | refine ah_ ?_ _)); exact BK118.out) hb); replace HB := Aside0.mk (ag_ (by repeat (first | (with_reducible first | exact HB.out | apply bA_ | apply bN_ | apply bD_ | refine ac_ ?_ GE112.out | refine ac_ ?_ GE118.out) | exact HB.out)) hb); (try clear hb)) | ((with_reducible refine au_ (N := 12) rfl ?_); refine aQ_ ?hg (N := 12) ?hd (cs := #[.string (⟨#[]⟩ : ByteArray), .string (⟨#[]⟩ : ByteArray), .int .i64 0, .int .i64 0]) (t := 63) ?hr ?_; (case hd => rfl); (case hg => rfl); (case hr => (go_simp; try rfl)); intro gb124 hg w58 hbox hb; replace HO_7 := Aside0.mk (Kd.aH_ (rz HO_7.out) hb); replace HO_8 := Aside0.mk (Kd.aH_ (rz HO_8.out) hb); have BK124 := Aside0.mk (hbox); have GW124 := Aside0.mk ((by rw [hg]; exact (ae_ (by repeat (first | (with_reducible first | exact HB.out | apply bA_ | apply bN_ | apply bD_ | refine ac_ ?_ GE112.out | refine ac_ ?_ GE118.out) | exact HB.out))) : w.heap.size ≤ gb124)); have GE124 := Aside0.mk ((by rw [hg]; exact (ae_ (by repeat (first | (with_reducible first | exact HB.out | apply bA_ | apply bN_ | apply bD_ | refine ac_ ?_ GE112.out | refine ac_ ?_ GE118.out) | exact HB.out))) : w.heap.size ≤ gb124)); replace HB := Aside0.mk (ag_ (by repeat (first | (with_reducible first | exact HB.out | apply bA_ | apply bN_ | apply bD_ | refine ac_ ?_ GE112.out | refine ac_ ?_ GE118.out) | exact HB.out)) hb); have NB112_124 := Aside0.mk ((by rw [hg]; exact Nat.ne_of_lt (bM_ (g := gb112) (o := .cells #[.string t108, .string t109, .int .i64 t110, .int .i64 t111] 63 (0, 0)) (kz BK112.out)) : gb112 ≠ gb124)); have NB124_112 := Aside0.mk ((by rw [hg]; exact Nat.ne_of_gt (bM_ (g := gb112) (o := .cells #[.string t108, .string t109, .int .i64 t110, .int .i64 t111] 63 (0, 0)) (kz BK112.out)) : gb124 ≠ gb112)); replace BK112 := Aside0.mk (aG_ (g := gb112) (o := .cells #[.string t108, .string t109, .int .i64 t110, .int .i64 t111] 63 (0, 0)) (kz BK112.out) hb); have NB118_124 := Aside0.mk ((by rw [hg]; exact Nat.ne_of_lt (bM_ (g := gb118) (o := .cells #[.string t114, .string t115, .int .i64 t116, .int .i64 t117] 63 (0, 0)) (kz BK118.out)) : gb118 ≠ gb124)); have NB124_118 := Aside0.mk ((by rw [hg]; exact Nat.ne_of_gt (bM_ (g := gb118) (o := .cells #[.string t114, .string t115, .int .i64 t116, .int .i64 t117] 63 (0, 0)) (kz BK118.out)) : gb124 ≠ gb118)); replace BK118 := Aside0.mk (aG_ (g := gb118) (o := .cells #[.string t114, .string t115, .int .i64 t116, .int .i64 t117] 63 (0, 0)) (kz BK118.out) hb); clear hb hbox hg; have hnb59 := NB124_112.out; have hnc59 := NB112_124.out; have hnb60 := NB124_118.out; have hnc60 := NB118_124.out; have hcz61_0 : w58.cell? ⟨gb124, 0, none⟩ = some (.string (⟨#[]⟩ : ByteArray)) := (ab_ BK124.out 0).trans rfl; have hcz61_1 : w58.cell? ⟨gb124, 1, none⟩ = some (.string (⟨#[]⟩ : ByteArray)) := (ab_ BK124.out 1).trans rfl; have hcz61_2 : w58.cell? ⟨gb124, 2, none⟩ = some (.int .i64 0) := (ab_ BK124.out 2).trans rfl; have hcz61_3 : w58.cell? ⟨gb124, 3, none⟩ = some (.int .i64 0) := (ab_ BK124.out 3).trans rfl; have hfz61_0 := aa_ BK124.out 0; have hfz61_1 := aa_ BK124.out 1; have hfz61_2 := aa_ BK124.out 2; have hfz61_3 := aa_ BK124.out 3; have hcz62_0 : w58.cell? ⟨gb112, 0, none⟩ = some (.string t108) := (ab_ BK112.out 0).trans rfl; have hcz62_1 : w58.cell? ⟨gb112, 1, none⟩ = some (.string t109) := (ab_ BK112.out 1).trans rfl; have hcz62_2 : w58.cell? ⟨gb112, 2, none⟩ = some (.int .i64 t110) := (ab_ BK112.out 2).trans rfl; have hcz62_3 : w58.cell? ⟨gb112, 3, none⟩ = some (.int .i64 t111) := (ab_ BK112.out 3).trans rfl; have hfz62_0 := aa_ BK112.out 0; have hfz62_1 := aa_ BK112.out 1; have hfz62_2 := aa_ BK112.out 2; have hfz62_3 := aa_ BK112.out 3; have hcz63_0 : w58.cell? ⟨gb118, 0, none⟩ = some (.string t114) := (ab_ BK118.out 0).trans rfl; have hcz63_1 : w58.cell? ⟨gb118, 1, none⟩ = some (.string t115) := (ab_ BK118.out 1).trans rfl; have hcz63_2 : w58.cell? ⟨gb118, 2, none⟩ = some (.int .i64 t116) := (ab_ BK118.out 2).trans rfl; have hcz63_3 : w58.cell? ⟨gb118, 3, none⟩ = some (.int .i64 t117) := (ab_ BK118.out 3).trans rfl; have hfz63_0 := aa_ BK118.out 0; have hfz63_1 := aa_ BK118.out 1; have hfz63_2 := aa_ BK118.out 2; have hfz63_3 := aa_ BK118.out 3))
    go_roundg k1
    case measure => have := HK1.out; omega
    case rel => exact ⟨(x8_1), (wrap64 (x9_1 + 1)), (by first | rfl | (simp; done) | (simp [*]; done)), H', ⟨by have := HK1.out; omega⟩, ⟨rz (Kd.aK_ (Kd.R_far (p := ⟨gb124, 3, none⟩) (Kd.R_far (p := ⟨gb124, 2, none⟩) (Kd.R_far (p := ⟨gb124, 1, none⟩) (Kd.R_far (p := ⟨gb124, 0, none⟩) (Kd.bp_ HO_7.out BK124.out (by decide)) (fun _ hk => hk.2) (.string t120)) (fun _ hk => hk.2) (.string t121)) (fun _ hk => hk.2) (.int .i64 t122)) (fun _ hk => hk.2) (.int .i64 t123)) (fun _ hk => hk.1))⟩, ⟨rz (Kd.aK_ (Kd.R_far (p := ⟨gb124, 3, none⟩) (Kd.R_far (p := ⟨gb124, 2, none⟩) (Kd.R_far (p := ⟨gb124, 1, none⟩) (Kd.R_far (p := ⟨gb124, 0, none⟩) (Kd.bp_ HO_8.out BK124.out (by decide)) (fun _ hk => hk.2) (.string t120)) (fun _ hk => hk.2) (.string t121)) (fun _ hk => hk.2) (.int .i64 t122)) (fun _ hk => hk.2) (.int .i64 t123)) (fun _ hk => hk.1))⟩, ⟨by repeat (first | (with_reducible first | exact HB.out | apply bA_ | apply bN_ | apply bD_ | refine ac_ ?_ GE112.out | refine ac_ ?_ GE118.out | refine ac_ ?_ GE124.out) | exact HB.out)⟩⟩
   rw [if_pos c13] at H
   have c13b0 : (!(t108.toList == t114.toList) || ((!(t109.toList == t115.toList) || (!(t110 == t116) || (!(t111 == t117)))))) = true := c13
   clear c13
   by_cases c14 : (!(t108.toList == t120.toList) || ((!(t109.toList == t121.toList) || (!(t110 == t122) || (!(t111 == t123)))))) = true
   rotate_left
   ·rw [if_neg c14] at H
    have c14b0 : (!(t108.toList == t120.toList) || ((!(t109.toList == t121.toList) || (!(t110 == t122) || (!(t111 == t123)))))) = false := by simpa using c14
    clear c14
    have H' := Aside0.mk H
    clear H
    obtain ⟨Ao34, co34, eo34⟩ := Kd.bF_ HO_7.out
    subst eo34
    have p107 : 0 ≤ (x9_1 : Int) := of_decide_eq_true (by assumption)
    have q107 : x9_1 < (t101.length : Int) := of_decide_eq_true (by assumption)
    obtain ⟨ad107, e107, hx107_0⟩ := Kd.co_ (Kd.bf_ HO_7.out).2.2 x9_1 p107 q107
    cases e107
    replace p107 := eq_true p107
    replace q107 := eq_true q107
    go_wp2_with (first | ((with_reducible refine am_ (f := 67) rfl ?_); refine aX_ (some 29) rfl rfl Try.func67 (by kernel_rfl) rfl #[.slice A0 l0.length c0, .string (rdOf ByteArray.empty t101 x9_1)] rfl (by first | rfl | (simp only [List.map_toArray, List.map_cons, List.map_nil]; first | done | rfl)) ?_; (with_reducible refine (bQ_.calls k1 _ _ l0 (rdOf ByteArray.empty t101 x9_1) t108 t109 t110 t111 _ ?side1 ?side2 A10.out).mono ?_); (case side1 => exact cz (Kd.bE_ HR0.out HB.out)); (case side2 => exact HC0.out); rintro e w35 ⟨rfl, hb⟩; refine ⟨_, rfl, ?_⟩; replace HO_7 := Aside0.mk (Kd.aH_ (rz HO_7.out) hb); replace HO_8 := Aside0.mk (Kd.aH_ (rz HO_8.out) hb); replace HB := Aside0.mk (ag_ (bz HB.out) hb); (try clear hb)) | ((with_reducible refine au_ (N := 10) rfl ?_); refine aQ_ ?hg (N := 10) ?hd (cs := #[.string (⟨#[]⟩ : ByteArray), .string (⟨#[]⟩ : ByteArray), .int .i64 0, .int .i64 0]) (t := 63) ?hr ?_; (case hd => rfl); (case hg => rfl); (case hr => (go_simp; try rfl)); intro gb112 hg w36 hbox hb; replace HO_7 := Aside0.mk (Kd.aH_ (rz HO_7.out) hb); replace HO_8 := Aside0.mk (Kd.aH_ (rz HO_8.out) hb); have BK112 := Aside0.mk (hbox); have GW112 := Aside0.mk ((by rw [hg]; exact (ae_ (bz HB.out)) : w.heap.size ≤ gb112)); have GE112 := Aside0.mk ((by rw [hg]; exact (ae_ (bz HB.out)) : w.heap.size ≤ gb112)); replace HB := Aside0.mk (ag_ (bz HB.out) hb); clear hb hbox hg; have hcz37_0 : w36.cell? ⟨gb112, 0, none⟩ = some (.string (⟨#[]⟩ : ByteArray)) := (ab_ BK112.out 0).trans rfl; have hcz37_1 : w36.cell? ⟨gb112, 1, none⟩ = some (.string (⟨#[]⟩ : ByteArray)) := (ab_ BK112.out 1).trans rfl; have hcz37_2 : w36.cell? ⟨gb112, 2, none⟩ = some (.int .i64 0) := (ab_ BK112.out 2).trans rfl; have hcz37_3 : w36.cell? ⟨gb112, 3, none⟩ = some (.int .i64 0) := (ab_ BK112.out 3).trans rfl; have hfz37_0 := aa_ BK112.out 0; have hfz37_1 := aa_ BK112.out 1; have hfz37_2 := aa_ BK112.out 2; have hfz37_3 := aa_ BK112.out 3; have p113 : 0 ≤ (x9_1 : Int) := of_decide_eq_true (by assumption); have q113 : x9_1 < (t101.length : Int) := of_decide_eq_true (by assumption); obtain ⟨ad113, e113, hx113_0⟩ := Kd.co_ (Kd.bf_ HO_7.out).2.2 x9_1 p113 q113; obtain rfl : ad107 = ad113 := (by injection e113); have hn113_0 : ad107.block ≠ gb112 := Kd.cn_ (Kd.R_ne HO_7.out BK112.out (by decide)); have hn113_1 : ad107.block ≠ gb112 := Kd.cn_ (Kd.R_ne HO_7.out BK112.out (by decide)); have hn113_2 : ad107.block ≠ gb112 := Kd.cn_ (Kd.R_ne HO_7.out BK112.out (by decide)); have hn113_3 : ad107.block ≠ gb112 := Kd.cn_ (Kd.R_ne HO_7.out BK112.out (by decide)); replace hx113_0 := (cell_far (p := ⟨gb112, 0, none⟩) (by first | (rw [add_block]; exact hn113_0) | (show (Addr.add _ _).block ≠ _; rw [add_block]; exact hn113_0) | exact hn113_0) (.string t108)).trans hx113_0; replace hx113_0 := (cell_far (p := ⟨gb112, 1, none⟩) (by first | (rw [add_block]; exact hn113_1) | (show (Addr.add _ _).block ≠ _; rw [add_block]; exact hn113_1) | exact hn113_1) (.string t109)).trans hx113_0; replace hx113_0 := (cell_far (p := ⟨gb112, 2, none⟩) (by first | (rw [add_block]; exact hn113_2) | (show (Addr.add _ _).block ≠ _; rw [add_block]; exact hn113_2) | exact hn113_2) (.int .i64 t110)).trans hx113_0; replace hx113_0 := (cell_far (p := ⟨gb112, 3, none⟩) (by first | (rw [add_block]; exact hn113_3) | (show (Addr.add _ _).block ≠ _; rw [add_block]; exact hn113_3) | exact hn113_3) (.int .i64 t111)).trans hx113_0; clear hn113_0; clear hn113_1; clear hn113_2; clear hn113_3; replace p113 := eq_true p113; replace q113 := eq_true q113) | ((with_reducible refine am_ (f := 67) rfl ?_); refine aX_ (some 35) rfl rfl Try.func67 (by kernel_rfl) rfl #[.slice A1 l1.length c1, .string (rdOf ByteArray.empty t101 x9_1)] rfl (by first | rfl | (simp only [List.map_toArray, List.map_cons, List.map_nil]; first | done | rfl)) ?_; (with_reducible refine (bQ_.calls k1 _ _ l1 (rdOf ByteArray.empty t101 x9_1) t114 t115 t116 t117 _ ?side1 ?side2 A11.out).mono ?_); (case side1 => exact Kd.bE_ HR1.out (by repeat (first | (with_reducible first | exact HB.out | apply bA_ | apply bN_ | apply bD_ | refine ac_ ?_ GE112.out) | exact HB.out))); (case side2 => exact HC1.out); rintro e w38 ⟨rfl, hb⟩; refine ⟨_, rfl, ?_⟩; replace HO_7 := Aside0.mk (Kd.aH_ (rz (Kd.aK_ (Kd.R_far (p := ⟨gb112, 3, none⟩) (Kd.R_far (p := ⟨gb112, 2, none⟩) (Kd.R_far (p := ⟨gb112, 1, none⟩) (Kd.R_far (p := ⟨gb112, 0, none⟩) (Kd.bp_ HO_7.out BK112.out (by decide)) (fun _ hk => hk.2) (.string t108)) (fun _ hk => hk.2) (.string t109)) (fun _ hk => hk.2) (.int .i64 t110)) (fun _ hk => hk.2) (.int .i64 t111)) (fun _ h_ => h_.1))) hb); replace HO_8 := Aside0.mk (Kd.aH_ (rz (Kd.aK_ (Kd.R_far (p := ⟨gb112, 3, none⟩) (Kd.R_far (p := ⟨gb112, 2, none⟩) (Kd.R_far (p := ⟨gb112, 1, none⟩) (Kd.R_far (p := ⟨gb112, 0, none⟩) (Kd.bp_ HO_8.out BK112.out (by decide)) (fun _ hk => hk.2) (.string t108)) (fun _ hk => hk.2) (.string t109)) (fun _ hk => hk.2) (.int .i64 t110)) (fun _ hk => hk.2) (.int .i64 t111)) (fun _ h_ => h_.1))) hb); replace BK112 := Aside0.mk (aG_ (g := gb112) (o := .cells #[.string t108, .string t109, .int .i64 t110, .int .i64 t111] 63 (0, 0)) (by (with_reducible repeat (first | refine ai_ ?_ _ | refine aj_ ?_ | refine ah_ ?_ _)); refine aB_ (cs := #[.string t108, .string t109, .int .i64 t110, .int .i64 0]) ?_ 3 _ rfl; (with_reducible repeat (first | refine ai_ ?_ _ | refine aj_ ?_ | refine ah_ ?_ _)); refine aB_ (cs := #[.string t108, .string t109, .int .i64 0, .int .i64 0]) ?_ 2 _ rfl; (with_reducible repeat (first | refine ai_ ?_ _ | refine aj_ ?_ | refine ah_ ?_ _)); refine aB_ (cs := #[.string t108, .string (⟨#[]⟩ : ByteArray), .int .i64 0, .int .i64 0]) ?_ 1 _ rfl; (with_reducible repeat (first | refine ai_ ?_ _ | refine aj_ ?_ | refine ah_ ?_ _)); refine aB_ (cs := #[.string (⟨#[]⟩ : ByteArray), .string (⟨#[]⟩ : ByteArray), .int .i64 0, .int .i64 0]) ?_ 0 _ rfl; (with_reducible repeat (first | refine ai_ ?_ _ | refine aj_ ?_ | refine ah_ ?_ _)); exact BK112.out) hb); replace HB := Aside0.mk (ag_ (by repeat (first | (with_reducible first | exact HB.out | apply bA_ | apply bN_ | apply bD_ | refine ac_ ?_ GE112.out) | exact HB.out)) hb); (try clear hb)) | ((with_reducible refine au_ (N := 11) rfl ?_); refine aQ_ ?hg (N := 11) ?hd (cs := #[.string (⟨#[]⟩ : ByteArray), .string (⟨#[]⟩ : ByteArray), .int .i64 0, .int .i64 0]) (t := 63) ?hr ?_; (case hd => rfl); (case hg => rfl); (case hr => (go_simp; try rfl)); intro gb118 hg w39 hbox hb; replace HO_7 := Aside0.mk (Kd.aH_ (rz HO_7.out) hb); replace HO_8 := Aside0.mk (Kd.aH_ (rz HO_8.out) hb); have BK118 := Aside0.mk (hbox); have GW118 := Aside0.mk ((by rw [hg]; exact (ae_ (by repeat (first | (with_reducible first | exact HB.out | apply bA_ | apply bN_ | apply bD_ | refine ac_ ?_ GE112.out) | exact HB.out))) : w.heap.size ≤ gb118)); have GE118 := Aside0.mk ((by rw [hg]; exact (ae_ (by repeat (first | (with_reducible first | exact HB.out | apply bA_ | apply bN_ | apply bD_ | refine ac_ ?_ GE112.out) | exact HB.out))) : w.heap.size ≤ gb118)); replace HB := Aside0.mk (ag_ (by repeat (first | (with_reducible first | exact HB.out | apply bA_ | apply bN_ | apply bD_ | refine ac_ ?_ GE112.out) | exact HB.out)) hb); have NB112_118 := Aside0.mk ((by rw [hg]; exact Nat.ne_of_lt (bM_ (g := gb112) (o := .cells #[.string t108, .string t109, .int .i64 t110, .int .i64 t111] 63 (0, 0)) (kz BK112.out)) : gb112 ≠ gb118)); have NB118_112 := Aside0.mk ((by rw [hg]; exact Nat.ne_of_gt (bM_ (g := gb112) (o := .cells #[.string t108, .string t109, .int .i64 t110, .int .i64 t111] 63 (0, 0)) (kz BK112.out)) : gb118 ≠ gb112)); replace BK112 := Aside0.mk (aG_ (g := gb112) (o := .cells #[.string t108, .string t109, .int .i64 t110, .int .i64 t111] 63 (0, 0)) (kz BK112.out) hb); clear hb hbox hg; have hnb40 := NB118_112.out; have hnc40 := NB112_118.out; have hcz41_0 : w39.cell? ⟨gb118, 0, none⟩ = some (.string (⟨#[]⟩ : ByteArray)) := (ab_ BK118.out 0).trans rfl; have hcz41_1 : w39.cell? ⟨gb118, 1, none⟩ = some (.string (⟨#[]⟩ : ByteArray)) := (ab_ BK118.out 1).trans rfl; have hcz41_2 : w39.cell? ⟨gb118, 2, none⟩ = some (.int .i64 0) := (ab_ BK118.out 2).trans rfl; have hcz41_3 : w39.cell? ⟨gb118, 3, none⟩ = some (.int .i64 0) := (ab_ BK118.out 3).trans rfl; have hfz41_0 := aa_ BK118.out 0; have hfz41_1 := aa_ BK118.out 1; have hfz41_2 := aa_ BK118.out 2; have hfz41_3 := aa_ BK118.out 3; have p119 : 0 ≤ (x9_1 : Int) := of_decide_eq_true (by assumption); have q119 : x9_1 < (t101.length : Int) := of_decide_eq_true (by assumption); obtain ⟨ad119, e119, hx119_0⟩ := Kd.co_ (Kd.bf_ HO_7.out).2.2 x9_1 p119 q119; obtain rfl : ad107 = ad119 := (by injection e119); have hn119_0 : ad107.block ≠ gb118 := Kd.cn_ (Kd.R_ne HO_7.out BK118.out (by decide)); have hn119_1 : ad107.block ≠ gb118 := Kd.cn_ (Kd.R_ne HO_7.out BK118.out (by decide)); have hn119_2 : ad107.block ≠ gb118 := Kd.cn_ (Kd.R_ne HO_7.out BK118.out (by decide)); have hn119_3 : ad107.block ≠ gb118 := Kd.cn_ (Kd.R_ne HO_7.out BK118.out (by decide)); replace hx119_0 := (cell_far (p := ⟨gb118, 0, none⟩) (by first | (rw [add_block]; exact hn119_0) | (show (Addr.add _ _).block ≠ _; rw [add_block]; exact hn119_0) | exact hn119_0) (.string t114)).trans hx119_0; replace hx119_0 := (cell_far (p := ⟨gb118, 1, none⟩) (by first | (rw [add_block]; exact hn119_1) | (show (Addr.add _ _).block ≠ _; rw [add_block]; exact hn119_1) | exact hn119_1) (.string t115)).trans hx119_0; replace hx119_0 := (cell_far (p := ⟨gb118, 2, none⟩) (by first | (rw [add_block]; exact hn119_2) | (show (Addr.add _ _).block ≠ _; rw [add_block]; exact hn119_2) | exact hn119_2) (.int .i64 t116)).trans hx119_0; replace hx119_0 := (cell_far (p := ⟨gb118, 3, none⟩) (by first | (rw [add_block]; exact hn119_3) | (show (Addr.add _ _).block ≠ _; rw [add_block]; exact hn119_3) | exact hn119_3) (.int .i64 t117)).trans hx119_0; clear hn119_0; clear hn119_1; clear hn119_2; clear hn119_3; replace p119 := eq_true p119; replace q119 := eq_true q119) | ((with_reducible refine am_ (f := 67) rfl ?_); refine aX_ (some 41) rfl rfl Try.func67 (by kernel_rfl) rfl #[.slice A2 l2.length c2, .string (rdOf ByteArray.empty t101 x9_1)] rfl (by first | rfl | (simp only [List.map_toArray, List.map_cons, List.map_nil]; first | done | rfl)) ?_; (with_reducible refine (bQ_.calls k1 _ _ l2 (rdOf ByteArray.empty t101 x9_1) t120 t121 t122 t123 _ ?side1 ?side2 A12.out).mono ?_); (case side1 => exact Kd.bE_ HR2.out (by repeat (first | (with_reducible first | exact HB.out | apply bA_ | apply bN_ | apply bD_ | refine ac_ ?_ GE112.out | refine ac_ ?_ GE118.out) | exact HB.out))); (case side2 => exact HC2.out); rintro e w42 ⟨rfl, hb⟩; refine ⟨_, rfl, ?_⟩; replace HO_7 := Aside0.mk (Kd.aH_ (rz (Kd.aK_ (Kd.R_far (p := ⟨gb118, 3, none⟩) (Kd.R_far (p := ⟨gb118, 2, none⟩) (Kd.R_far (p := ⟨gb118, 1, none⟩) (Kd.R_far (p := ⟨gb118, 0, none⟩) (Kd.bp_ HO_7.out BK118.out (by decide)) (fun _ hk => hk.2) (.string t114)) (fun _ hk => hk.2) (.string t115)) (fun _ hk => hk.2) (.int .i64 t116)) (fun _ hk => hk.2) (.int .i64 t117)) (fun _ h_ => h_.1))) hb); replace HO_8 := Aside0.mk (Kd.aH_ (rz (Kd.aK_ (Kd.R_far (p := ⟨gb118, 3, none⟩) (Kd.R_far (p := ⟨gb118, 2, none⟩) (Kd.R_far (p := ⟨gb118, 1, none⟩) (Kd.R_far (p := ⟨gb118, 0, none⟩) (Kd.bp_ HO_8.out BK118.out (by decide)) (fun _ hk => hk.2) (.string t114)) (fun _ hk => hk.2) (.string t115)) (fun _ hk => hk.2) (.int .i64 t116)) (fun _ hk => hk.2) (.int .i64 t117)) (fun _ h_ => h_.1))) hb); replace BK112 := Aside0.mk (aG_ (g := gb112) (o := .cells #[.string t108, .string t109, .int .i64 t110, .int .i64 t111] 63 (0, 0)) (by (with_reducible repeat (first | refine ai_ ?_ _ | refine aj_ ?_ | refine ah_ ?_ _)); refine bG_ ?_ NB112_118.out _; (with_reducible repeat (first | refine ai_ ?_ _ | refine aj_ ?_ | refine ah_ ?_ _)); refine bG_ ?_ NB112_118.out _; (with_reducible repeat (first | refine ai_ ?_ _ | refine aj_ ?_ | refine ah_ ?_ _)); refine bG_ ?_ NB112_118.out _; (with_reducible repeat (first | refine ai_ ?_ _ | refine aj_ ?_ | refine ah_ ?_ _)); refine bG_ ?_ NB112_118.out _; (with_reducible repeat (first | refine ai_ ?_ _ | refine aj_ ?_ | refine ah_ ?_ _)); exact BK112.out) hb); replace BK118 := Aside0.mk (aG_ (g := gb118) (o := .cells #[.string t114, .string t115, .int .i64 t116, .int .i64 t117] 63 (0, 0)) (by (with_reducible repeat (first | refine ai_ ?_ _ | refine aj_ ?_ | refine ah_ ?_ _)); refine aB_ (cs := #[.string t114, .string t115, .int .i64 t116, .int .i64 0]) ?_ 3 _ rfl; (with_reducible repeat (first | refine ai_ ?_ _ | refine aj_ ?_ | refine ah_ ?_ _)); refine aB_ (cs := #[.string t114, .string t115, .int .i64 0, .int .i64 0]) ?_ 2 _ rfl; (with_reducible repeat (first | refine ai_ ?_ _ | refine aj_ ?_ | refine ah_ ?_ _)); refine aB_ (cs := #[.string t114, .string (⟨#[]⟩ : ByteArray), .int .i64 0, .int .i64 0]) ?_ 1 _ rfl; (with_reducible repeat (first | refine ai_ ?_ _ | refine aj_ ?_ | refine ah_ ?_ _)); refine aB_ (cs := #[.string (⟨#[]⟩ : ByteArray), .string (⟨#[]⟩ : ByteArray), .int .i64 0, .int .i64 0]) ?_ 0 _ rfl; (with_reducible repeat (first | refine ai_ ?_ _ | refine aj_ ?_ | refine ah_ ?_ _)); exact BK118.out) hb); replace HB := Aside0.mk (ag_ (by repeat (first | (with_reducible first | exact HB.out | apply bA_ | apply bN_ | apply bD_ | refine ac_ ?_ GE112.out | refine ac_ ?_ GE118.out) | exact HB.out)) hb); (try clear hb)) | ((with_reducible refine au_ (N := 12) rfl ?_); refine aQ_ ?hg (N := 12) ?hd (cs := #[.string (⟨#[]⟩ : ByteArray), .string (⟨#[]⟩ : ByteArray), .int .i64 0, .int .i64 0]) (t := 63) ?hr ?_; (case hd => rfl); (case hg => rfl); (case hr => (go_simp; try rfl)); intro gb124 hg w43 hbox hb; replace HO_7 := Aside0.mk (Kd.aH_ (rz HO_7.out) hb); replace HO_8 := Aside0.mk (Kd.aH_ (rz HO_8.out) hb); have BK124 := Aside0.mk (hbox); have GW124 := Aside0.mk ((by rw [hg]; exact (ae_ (by repeat (first | (with_reducible first | exact HB.out | apply bA_ | apply bN_ | apply bD_ | refine ac_ ?_ GE112.out | refine ac_ ?_ GE118.out) | exact HB.out))) : w.heap.size ≤ gb124)); have GE124 := Aside0.mk ((by rw [hg]; exact (ae_ (by repeat (first | (with_reducible first | exact HB.out | apply bA_ | apply bN_ | apply bD_ | refine ac_ ?_ GE112.out | refine ac_ ?_ GE118.out) | exact HB.out))) : w.heap.size ≤ gb124)); replace HB := Aside0.mk (ag_ (by repeat (first | (with_reducible first | exact HB.out | apply bA_ | apply bN_ | apply bD_ | refine ac_ ?_ GE112.out | refine ac_ ?_ GE118.out) | exact HB.out)) hb); have NB112_124 := Aside0.mk ((by rw [hg]; exact Nat.ne_of_lt (bM_ (g := gb112) (o := .cells #[.string t108, .string t109, .int .i64 t110, .int .i64 t111] 63 (0, 0)) (kz BK112.out)) : gb112 ≠ gb124)); have NB124_112 := Aside0.mk ((by rw [hg]; exact Nat.ne_of_gt (bM_ (g := gb112) (o := .cells #[.string t108, .string t109, .int .i64 t110, .int .i64 t111] 63 (0, 0)) (kz BK112.out)) : gb124 ≠ gb112)); replace BK112 := Aside0.mk (aG_ (g := gb112) (o := .cells #[.string t108, .string t109, .int .i64 t110, .int .i64 t111] 63 (0, 0)) (kz BK112.out) hb); have NB118_124 := Aside0.mk ((by rw [hg]; exact Nat.ne_of_lt (bM_ (g := gb118) (o := .cells #[.string t114, .string t115, .int .i64 t116, .int .i64 t117] 63 (0, 0)) (kz BK118.out)) : gb118 ≠ gb124)); have NB124_118 := Aside0.mk ((by rw [hg]; exact Nat.ne_of_gt (bM_ (g := gb118) (o := .cells #[.string t114, .string t115, .int .i64 t116, .int .i64 t117] 63 (0, 0)) (kz BK118.out)) : gb124 ≠ gb118)); replace BK118 := Aside0.mk (aG_ (g := gb118) (o := .cells #[.string t114, .string t115, .int .i64 t116, .int .i64 t117] 63 (0, 0)) (kz BK118.out) hb); clear hb hbox hg; have hnb44 := NB124_112.out; have hnc44 := NB112_124.out; have hnb45 := NB124_118.out; have hnc45 := NB118_124.out; have hcz46_0 : w43.cell? ⟨gb124, 0, none⟩ = some (.string (⟨#[]⟩ : ByteArray)) := (ab_ BK124.out 0).trans rfl; have hcz46_1 : w43.cell? ⟨gb124, 1, none⟩ = some (.string (⟨#[]⟩ : ByteArray)) := (ab_ BK124.out 1).trans rfl; have hcz46_2 : w43.cell? ⟨gb124, 2, none⟩ = some (.int .i64 0) := (ab_ BK124.out 2).trans rfl; have hcz46_3 : w43.cell? ⟨gb124, 3, none⟩ = some (.int .i64 0) := (ab_ BK124.out 3).trans rfl; have hfz46_0 := aa_ BK124.out 0; have hfz46_1 := aa_ BK124.out 1; have hfz46_2 := aa_ BK124.out 2; have hfz46_3 := aa_ BK124.out 3; have hcz47_0 : w43.cell? ⟨gb112, 0, none⟩ = some (.string t108) := (ab_ BK112.out 0).trans rfl; have hcz47_1 : w43.cell? ⟨gb112, 1, none⟩ = some (.string t109) := (ab_ BK112.out 1).trans rfl; have hcz47_2 : w43.cell? ⟨gb112, 2, none⟩ = some (.int .i64 t110) := (ab_ BK112.out 2).trans rfl; have hcz47_3 : w43.cell? ⟨gb112, 3, none⟩ = some (.int .i64 t111) := (ab_ BK112.out 3).trans rfl; have hfz47_0 := aa_ BK112.out 0; have hfz47_1 := aa_ BK112.out 1; have hfz47_2 := aa_ BK112.out 2; have hfz47_3 := aa_ BK112.out 3; have hcz48_0 : w43.cell? ⟨gb118, 0, none⟩ = some (.string t114) := (ab_ BK118.out 0).trans rfl; have hcz48_1 : w43.cell? ⟨gb118, 1, none⟩ = some (.string t115) := (ab_ BK118.out 1).trans rfl; have hcz48_2 : w43.cell? ⟨gb118, 2, none⟩ = some (.int .i64 t116) := (ab_ BK118.out 2).trans rfl; have hcz48_3 : w43.cell? ⟨gb118, 3, none⟩ = some (.int .i64 t117) := (ab_ BK118.out 3).trans rfl; have hfz48_0 := aa_ BK118.out 0; have hfz48_1 := aa_ BK118.out 1; have hfz48_2 := aa_ BK118.out 2; have hfz48_3 := aa_ BK118.out 3))
    go_roundg k1
    case measure => have := HK1.out; omega
    case rel => exact ⟨(x8_1), (wrap64 (x9_1 + 1)), (by first | rfl | (simp; done) | (simp [*]; done)), H', ⟨by have := HK1.out; omega⟩, ⟨rz (Kd.aK_ (Kd.R_far (p := ⟨gb124, 3, none⟩) (Kd.R_far (p := ⟨gb124, 2, none⟩) (Kd.R_far (p := ⟨gb124, 1, none⟩) (Kd.R_far (p := ⟨gb124, 0, none⟩) (Kd.bp_ HO_7.out BK124.out (by decide)) (fun _ hk => hk.2) (.string t120)) (fun _ hk => hk.2) (.string t121)) (fun _ hk => hk.2) (.int .i64 t122)) (fun _ hk => hk.2) (.int .i64 t123)) (fun _ hk => hk.1))⟩, ⟨rz (Kd.aK_ (Kd.R_far (p := ⟨gb124, 3, none⟩) (Kd.R_far (p := ⟨gb124, 2, none⟩) (Kd.R_far (p := ⟨gb124, 1, none⟩) (Kd.R_far (p := ⟨gb124, 0, none⟩) (Kd.bp_ HO_8.out BK124.out (by decide)) (fun _ hk => hk.2) (.string t120)) (fun _ hk => hk.2) (.string t121)) (fun _ hk => hk.2) (.int .i64 t122)) (fun _ hk => hk.2) (.int .i64 t123)) (fun _ hk => hk.1))⟩, ⟨by repeat (first | (with_reducible first | exact HB.out | apply bA_ | apply bN_ | apply bD_ | refine ac_ ?_ GE112.out | refine ac_ ?_ GE118.out | refine ac_ ?_ GE124.out) | exact HB.out)⟩⟩
   rw [if_pos c14] at H
   have c14b0 : (!(t108.toList == t120.toList) || ((!(t109.toList == t121.toList) || (!(t110 == t122) || (!(t111 == t123)))))) = true := c14
   clear c14
   have HC15 := Aside0.mk H
   clear H
   obtain ⟨Ao16, co16, eo16⟩ := Kd.bF_ HO_7.out
   subst eo16
   have p107 : 0 ≤ (x9_1 : Int) := of_decide_eq_true (by assumption)
   have q107 : x9_1 < (t101.length : Int) := of_decide_eq_true (by assumption)
   obtain ⟨ad107, e107, hx107_0⟩ := Kd.co_ (Kd.bf_ HO_7.out).2.2 x9_1 p107 q107
   cases e107
   replace p107 := eq_true p107
   replace q107 := eq_true q107
   go_upto_if 54 with (first | ((with_reducible refine am_ (f := 67) rfl ?_); refine aX_ (some 29) rfl rfl Try.func67 (by kernel_rfl) rfl #[.slice A0 l0.length c0, .string (rdOf ByteArray.empty t101 x9_1)] rfl (by first | rfl | (simp only [List.map_toArray, List.map_cons, List.map_nil]; first | done | rfl)) ?_; (with_reducible refine (bQ_.calls k1 _ _ l0 (rdOf ByteArray.empty t101 x9_1) t108 t109 t110 t111 _ ?side1 ?side2 A10.out).mono ?_); (case side1 => exact cz (Kd.bE_ HR0.out HB.out)); (case side2 => exact HC0.out); rintro e w17 ⟨rfl, hb⟩; refine ⟨_, rfl, ?_⟩; replace HO_7 := Aside0.mk (Kd.aH_ (rz HO_7.out) hb); replace HO_8 := Aside0.mk (Kd.aH_ (rz HO_8.out) hb); replace HB := Aside0.mk (ag_ (bz HB.out) hb); (try clear hb)) | ((with_reducible refine au_ (N := 10) rfl ?_); refine aQ_ ?hg (N := 10) ?hd (cs := #[.string (⟨#[]⟩ : ByteArray), .string (⟨#[]⟩ : ByteArray), .int .i64 0, .int .i64 0]) (t := 63) ?hr ?_; (case hd => rfl); (case hg => rfl); (case hr => (go_simp; try rfl)); intro gb112 hg w18 hbox hb; replace HO_7 := Aside0.mk (Kd.aH_ (rz HO_7.out) hb); replace HO_8 := Aside0.mk (Kd.aH_ (rz HO_8.out) hb); have BK112 := Aside0.mk (hbox); have GW112 := Aside0.mk ((by rw [hg]; exact (ae_ (bz HB.out)) : w.heap.size ≤ gb112)); have GE112 := Aside0.mk ((by rw [hg]; exact (ae_ (bz HB.out)) : w.heap.size ≤ gb112)); replace HB := Aside0.mk (ag_ (bz HB.out) hb); clear hb hbox hg; have hcz19_0 : w18.cell? ⟨gb112, 0, none⟩ = some (.string (⟨#[]⟩ : ByteArray)) := (ab_ BK112.out 0).trans rfl; have hcz19_1 : w18.cell? ⟨gb112, 1, none⟩ = some (.string (⟨#[]⟩ : ByteArray)) := (ab_ BK112.out 1).trans rfl; have hcz19_2 : w18.cell? ⟨gb112, 2, none⟩ = some (.int .i64 0) := (ab_ BK112.out 2).trans rfl; have hcz19_3 : w18.cell? ⟨gb112, 3, none⟩ = some (.int .i64 0) := (ab_ BK112.out 3).trans rfl; have hfz19_0 := aa_ BK112.out 0; have hfz19_1 := aa_ BK112.out 1; have hfz19_2 := aa_ BK112.out 2; have hfz19_3 := aa_ BK112.out 3; have p113 : 0 ≤ (x9_1 : Int) := of_decide_eq_true (by assumption); have q113 : x9_1 < (t101.length : Int) := of_decide_eq_true (by assumption); obtain ⟨ad113, e113, hx113_0⟩ := Kd.co_ (Kd.bf_ HO_7.out).2.2 x9_1 p113 q113; obtain rfl : ad107 = ad113 := (by injection e113); have hn113_0 : ad107.block ≠ gb112 := Kd.cn_ (Kd.R_ne HO_7.out BK112.out (by decide)); have hn113_1 : ad107.block ≠ gb112 := Kd.cn_ (Kd.R_ne HO_7.out BK112.out (by decide)); have hn113_2 : ad107.block ≠ gb112 := Kd.cn_ (Kd.R_ne HO_7.out BK112.out (by decide)); have hn113_3 : ad107.block ≠ gb112 := Kd.cn_ (Kd.R_ne HO_7.out BK112.out (by decide)); replace hx113_0 := (cell_far (p := ⟨gb112, 0, none⟩) (by first | (rw [add_block]; exact hn113_0) | (show (Addr.add _ _).block ≠ _; rw [add_block]; exact hn113_0) | exact hn113_0) (.string t108)).trans hx113_0; replace hx113_0 := (cell_far (p := ⟨gb112, 1, none⟩) (by first | (rw [add_block]; exact hn113_1) | (show (Addr.add _ _).block ≠ _; rw [add_block]; exact hn113_1) | exact hn113_1) (.string t109)).trans hx113_0; replace hx113_0 := (cell_far (p := ⟨gb112, 2, none⟩) (by first | (rw [add_block]; exact hn113_2) | (show (Addr.add _ _).block ≠ _; rw [add_block]; exact hn113_2) | exact hn113_2) (.int .i64 t110)).trans hx113_0; replace hx113_0 := (cell_far (p := ⟨gb112, 3, none⟩) (by first | (rw [add_block]; exact hn113_3) | (show (Addr.add _ _).block ≠ _; rw [add_block]; exact hn113_3) | exact hn113_3) (.int .i64 t111)).trans hx113_0; clear hn113_0; clear hn113_1; clear hn113_2; clear hn113_3; replace p113 := eq_true p113; replace q113 := eq_true q113) | ((with_reducible refine am_ (f := 67) rfl ?_); refine aX_ (some 35) rfl rfl Try.func67 (by kernel_rfl) rfl #[.slice A1 l1.length c1, .string (rdOf ByteArray.empty t101 x9_1)] rfl (by first | rfl | (simp only [List.map_toArray, List.map_cons, List.map_nil]; first | done | rfl)) ?_; (with_reducible refine (bQ_.calls k1 _ _ l1 (rdOf ByteArray.empty t101 x9_1) t114 t115 t116 t117 _ ?side1 ?side2 A11.out).mono ?_); (case side1 => exact Kd.bE_ HR1.out (by repeat (first | (with_reducible first | exact HB.out | apply bA_ | apply bN_ | apply bD_ | refine ac_ ?_ GE112.out) | exact HB.out))); (case side2 => exact HC1.out); rintro e w20 ⟨rfl, hb⟩; refine ⟨_, rfl, ?_⟩; replace HO_7 := Aside0.mk (Kd.aH_ (rz (Kd.aK_ (Kd.R_far (p := ⟨gb112, 3, none⟩) (Kd.R_far (p := ⟨gb112, 2, none⟩) (Kd.R_far (p := ⟨gb112, 1, none⟩) (Kd.R_far (p := ⟨gb112, 0, none⟩) (Kd.bp_ HO_7.out BK112.out (by decide)) (fun _ hk => hk.2) (.string t108)) (fun _ hk => hk.2) (.string t109)) (fun _ hk => hk.2) (.int .i64 t110)) (fun _ hk => hk.2) (.int .i64 t111)) (fun _ h_ => h_.1))) hb); replace HO_8 := Aside0.mk (Kd.aH_ (rz (Kd.aK_ (Kd.R_far (p := ⟨gb112, 3, none⟩) (Kd.R_far (p := ⟨gb112, 2, none⟩) (Kd.R_far (p := ⟨gb112, 1, none⟩) (Kd.R_far (p := ⟨gb112, 0, none⟩) (Kd.bp_ HO_8.out BK112.out (by decide)) (fun _ hk => hk.2) (.string t108)) (fun _ hk => hk.2) (.string t109)) (fun _ hk => hk.2) (.int .i64 t110)) (fun _ hk => hk.2) (.int .i64 t111)) (fun _ h_ => h_.1))) hb); replace BK112 := Aside0.mk (aG_ (g := gb112) (o := .cells #[.string t108, .string t109, .int .i64 t110, .int .i64 t111] 63 (0, 0)) (by (with_reducible repeat (first | refine ai_ ?_ _ | refine aj_ ?_ | refine ah_ ?_ _)); refine aB_ (cs := #[.string t108, .string t109, .int .i64 t110, .int .i64 0]) ?_ 3 _ rfl; (with_reducible repeat (first | refine ai_ ?_ _ | refine aj_ ?_ | refine ah_ ?_ _)); refine aB_ (cs := #[.string t108, .string t109, .int .i64 0, .int .i64 0]) ?_ 2 _ rfl; (with_reducible repeat (first | refine ai_ ?_ _ | refine aj_ ?_ | refine ah_ ?_ _)); refine aB_ (cs := #[.string t108, .string (⟨#[]⟩ : ByteArray), .int .i64 0, .int .i64 0]) ?_ 1 _ rfl; (with_reducible repeat (first | refine ai_ ?_ _ | refine aj_ ?_ | refine ah_ ?_ _)); refine aB_ (cs := #[.string (⟨#[]⟩ : ByteArray), .string (⟨#[]⟩ : ByteArray), .int .i64 0, .int .i64 0]) ?_ 0 _ rfl; (with_reducible repeat (first | refine ai_ ?_ _ | refine aj_ ?_ | refine ah_ ?_ _)); exact BK112.out) hb); replace HB := Aside0.mk (ag_ (by repeat (first | (with_reducible first | exact HB.out | apply bA_ | apply bN_ | apply bD_ | refine ac_ ?_ GE112.out) | exact HB.out)) hb); (try clear hb)) | ((with_reducible refine au_ (N := 11) rfl ?_); refine aQ_ ?hg (N := 11) ?hd (cs := #[.string (⟨#[]⟩ : ByteArray), .string (⟨#[]⟩ : ByteArray), .int .i64 0, .int .i64 0]) (t := 63) ?hr ?_; (case hd => rfl); (case hg => rfl); (case hr => (go_simp; try rfl)); intro gb118 hg w21 hbox hb; replace HO_7 := Aside0.mk (Kd.aH_ (rz HO_7.out) hb); replace HO_8 := Aside0.mk (Kd.aH_ (rz HO_8.out) hb); have BK118 := Aside0.mk (hbox); have GW118 := Aside0.mk ((by rw [hg]; exact (ae_ (by repeat (first | (with_reducible first | exact HB.out | apply bA_ | apply bN_ | apply bD_ | refine ac_ ?_ GE112.out) | exact HB.out))) : w.heap.size ≤ gb118)); have GE118 := Aside0.mk ((by rw [hg]; exact (ae_ (by repeat (first | (with_reducible first | exact HB.out | apply bA_ | apply bN_ | apply bD_ | refine ac_ ?_ GE112.out) | exact HB.out))) : w.heap.size ≤ gb118)); replace HB := Aside0.mk (ag_ (by repeat (first | (with_reducible first | exact HB.out | apply bA_ | apply bN_ | apply bD_ | refine ac_ ?_ GE112.out) | exact HB.out)) hb); have NB112_118 := Aside0.mk ((by rw [hg]; exact Nat.ne_of_lt (bM_ (g := gb112) (o := .cells #[.string t108, .string t109, .int .i64 t110, .int .i64 t111] 63 (0, 0)) (kz BK112.out)) : gb112 ≠ gb118)); have NB118_112 := Aside0.mk ((by rw [hg]; exact Nat.ne_of_gt (bM_ (g := gb112) (o := .cells #[.string t108, .string t109, .int .i64 t110, .int .i64 t111] 63 (0, 0)) (kz BK112.out)) : gb118 ≠ gb112)); replace BK112 := Aside0.mk (aG_ (g := gb112) (o := .cells #[.string t108, .string t109, .int .i64 t110, .int .i64 t111] 63 (0, 0)) (kz BK112.out) hb); clear hb hbox hg; have hnb22 := NB118_112.out; have hnc22 := NB112_118.out; have hcz23_0 : w21.cell? ⟨gb118, 0, none⟩ = some (.string (⟨#[]⟩ : ByteArray)) := (ab_ BK118.out 0).trans rfl; have hcz23_1 : w21.cell? ⟨gb118, 1, none⟩ = some (.string (⟨#[]⟩ : ByteArray)) := (ab_ BK118.out 1).trans rfl; have hcz23_2 : w21.cell? ⟨gb118, 2, none⟩ = some (.int .i64 0) := (ab_ BK118.out 2).trans rfl; have hcz23_3 : w21.cell? ⟨gb118, 3, none⟩ = some (.int .i64 0) := (ab_ BK118.out 3).trans rfl; have hfz23_0 := aa_ BK118.out 0; have hfz23_1 := aa_ BK118.out 1; have hfz23_2 := aa_ BK118.out 2; have hfz23_3 := aa_ BK118.out 3; have p119 : 0 ≤ (x9_1 : Int) := of_decide_eq_true (by assumption); have q119 : x9_1 < (t101.length : Int) := of_decide_eq_true (by assumption); obtain ⟨ad119, e119, hx119_0⟩ := Kd.co_ (Kd.bf_ HO_7.out).2.2 x9_1 p119 q119; obtain rfl : ad107 = ad119 := (by injection e119); have hn119_0 : ad107.block ≠ gb118 := Kd.cn_ (Kd.R_ne HO_7.out BK118.out (by decide)); have hn119_1 : ad107.block ≠ gb118 := Kd.cn_ (Kd.R_ne HO_7.out BK118.out (by decide)); have hn119_2 : ad107.block ≠ gb118 := Kd.cn_ (Kd.R_ne HO_7.out BK118.out (by decide)); have hn119_3 : ad107.block ≠ gb118 := Kd.cn_ (Kd.R_ne HO_7.out BK118.out (by decide)); replace hx119_0 := (cell_far (p := ⟨gb118, 0, none⟩) (by first | (rw [add_block]; exact hn119_0) | (show (Addr.add _ _).block ≠ _; rw [add_block]; exact hn119_0) | exact hn119_0) (.string t114)).trans hx119_0; replace hx119_0 := (cell_far (p := ⟨gb118, 1, none⟩) (by first | (rw [add_block]; exact hn119_1) | (show (Addr.add _ _).block ≠ _; rw [add_block]; exact hn119_1) | exact hn119_1) (.string t115)).trans hx119_0; replace hx119_0 := (cell_far (p := ⟨gb118, 2, none⟩) (by first | (rw [add_block]; exact hn119_2) | (show (Addr.add _ _).block ≠ _; rw [add_block]; exact hn119_2) | exact hn119_2) (.int .i64 t116)).trans hx119_0; replace hx119_0 := (cell_far (p := ⟨gb118, 3, none⟩) (by first | (rw [add_block]; exact hn119_3) | (show (Addr.add _ _).block ≠ _; rw [add_block]; exact hn119_3) | exact hn119_3) (.int .i64 t117)).trans hx119_0; clear hn119_0; clear hn119_1; clear hn119_2; clear hn119_3; replace p119 := eq_true p119; replace q119 := eq_true q119) | ((with_reducible refine am_ (f := 67) rfl ?_); refine aX_ (some 41) rfl rfl Try.func67 (by kernel_rfl) rfl #[.slice A2 l2.length c2, .string (rdOf ByteArray.empty t101 x9_1)] rfl (by first | rfl | (simp only [List.map_toArray, List.map_cons, List.map_nil]; first | done | rfl)) ?_; (with_reducible refine (bQ_.calls k1 _ _ l2 (rdOf ByteArray.empty t101 x9_1) t120 t121 t122 t123 _ ?side1 ?side2 A12.out).mono ?_); (case side1 => exact Kd.bE_ HR2.out (by repeat (first | (with_reducible first | exact HB.out | apply bA_ | apply bN_ | apply bD_ | refine ac_ ?_ GE112.out | refine ac_ ?_ GE118.out) | exact HB.out))); (case side2 => exact HC2.out); rintro e w24 ⟨rfl, hb⟩; refine ⟨_, rfl, ?_⟩; replace HO_7 := Aside0.mk (Kd.aH_ (rz (Kd.aK_ (Kd.R_far (p := ⟨gb118, 3, none⟩) (Kd.R_far (p := ⟨gb118, 2, none⟩) (Kd.R_far (p := ⟨gb118, 1, none⟩) (Kd.R_far (p := ⟨gb118, 0, none⟩) (Kd.bp_ HO_7.out BK118.out (by decide)) (fun _ hk => hk.2) (.string t114)) (fun _ hk => hk.2) (.string t115)) (fun _ hk => hk.2) (.int .i64 t116)) (fun _ hk => hk.2) (.int .i64 t117)) (fun _ h_ => h_.1))) hb); replace HO_8 := Aside0.mk (Kd.aH_ (rz (Kd.aK_ (Kd.R_far (p := ⟨gb118, 3, none⟩) (Kd.R_far (p := ⟨gb118, 2, none⟩) (Kd.R_far (p := ⟨gb118, 1, none⟩) (Kd.R_far (p := ⟨gb118, 0, none⟩) (Kd.bp_ HO_8.out BK118.out (by decide)) (fun _ hk => hk.2) (.string t114)) (fun _ hk => hk.2) (.string t115)) (fun _ hk => hk.2) (.int .i64 t116)) (fun _ hk => hk.2) (.int .i64 t117)) (fun _ h_ => h_.1))) hb); replace BK112 := Aside0.mk (aG_ (g := gb112) (o := .cells #[.string t108, .string t109, .int .i64 t110, .int .i64 t111] 63 (0, 0)) (by (with_reducible repeat (first | refine ai_ ?_ _ | refine aj_ ?_ | refine ah_ ?_ _)); refine bG_ ?_ NB112_118.out _; (with_reducible repeat (first | refine ai_ ?_ _ | refine aj_ ?_ | refine ah_ ?_ _)); refine bG_ ?_ NB112_118.out _; (with_reducible repeat (first | refine ai_ ?_ _ | refine aj_ ?_ | refine ah_ ?_ _)); refine bG_ ?_ NB112_118.out _; (with_reducible repeat (first | refine ai_ ?_ _ | refine aj_ ?_ | refine ah_ ?_ _)); refine bG_ ?_ NB112_118.out _; (with_reducible repeat (first | refine ai_ ?_ _ | refine aj_ ?_ | refine ah_ ?_ _)); exact BK112.out) hb); replace BK118 := Aside0.mk (aG_ (g := gb118) (o := .cells #[.string t114, .string t115, .int .i64 t116, .int .i64 t117] 63 (0, 0)) (by (with_reducible repeat (first | refine ai_ ?_ _ | refine aj_ ?_ | refine ah_ ?_ _)); refine aB_ (cs := #[.string t114, .string t115, .int .i64 t116, .int .i64 0]) ?_ 3 _ rfl; (with_reducible repeat (first | refine ai_ ?_ _ | refine aj_ ?_ | refine ah_ ?_ _)); refine aB_ (cs := #[.string t114, .string t115, .int .i64 0, .int .i64 0]) ?_ 2 _ rfl; (with_reducible repeat (first | refine ai_ ?_ _ | refine aj_ ?_ | refine ah_ ?_ _)); refine aB_ (cs := #[.string t114, .string (⟨#[]⟩ : ByteArray), .int .i64 0, .int .i64 0]) ?_ 1 _ rfl; (with_reducible repeat (first | refine ai_ ?_ _ | refine aj_ ?_ | refine ah_ ?_ _)); refine aB_ (cs := #[.string (⟨#[]⟩ : ByteArray), .string (⟨#[]⟩ : ByteArray), .int .i64 0, .int .i64 0]) ?_ 0 _ rfl; (with_reducible repeat (first | refine ai_ ?_ _ | refine aj_ ?_ | refine ah_ ?_ _)); exact BK118.out) hb); replace HB := Aside0.mk (ag_ (by repeat (first | (with_reducible first | exact HB.out | apply bA_ | apply bN_ | apply bD_ | refine ac_ ?_ GE112.out | refine ac_ ?_ GE118.out) | exact HB.out)) hb); (try clear hb)) | ((with_reducible refine au_ (N := 12) rfl ?_); refine aQ_ ?hg (N := 12) ?hd (cs := #[.string (⟨#[]⟩ : ByteArray), .string (⟨#[]⟩ : ByteArray), .int .i64 0, .int .i64 0]) (t := 63) ?hr ?_; (case hd => rfl); (case hg => rfl); (case hr => (go_simp; try rfl)); intro gb124 hg w25 hbox hb; replace HO_7 := Aside0.mk (Kd.aH_ (rz HO_7.out) hb); replace HO_8 := Aside0.mk (Kd.aH_ (rz HO_8.out) hb); have BK124 := Aside0.mk (hbox); have GW124 := Aside0.mk ((by rw [hg]; exact (ae_ (by repeat (first | (with_reducible first | exact HB.out | apply bA_ | apply bN_ | apply bD_ | refine ac_ ?_ GE112.out | refine ac_ ?_ GE118.out) | exact HB.out))) : w.heap.size ≤ gb124)); have GE124 := Aside0.mk ((by rw [hg]; exact (ae_ (by repeat (first | (with_reducible first | exact HB.out | apply bA_ | apply bN_ | apply bD_ | refine ac_ ?_ GE112.out | refine ac_ ?_ GE118.out) | exact HB.out))) : w.heap.size ≤ gb124)); replace HB := Aside0.mk (ag_ (by repeat (first | (with_reducible first | exact HB.out | apply bA_ | apply bN_ | apply bD_ | refine ac_ ?_ GE112.out | refine ac_ ?_ GE118.out) | exact HB.out)) hb); have NB112_124 := Aside0.mk ((by rw [hg]; exact Nat.ne_of_lt (bM_ (g := gb112) (o := .cells #[.string t108, .string t109, .int .i64 t110, .int .i64 t111] 63 (0, 0)) (kz BK112.out)) : gb112 ≠ gb124)); have NB124_112 := Aside0.mk ((by rw [hg]; exact Nat.ne_of_gt (bM_ (g := gb112) (o := .cells #[.string t108, .string t109, .int .i64 t110, .int .i64 t111] 63 (0, 0)) (kz BK112.out)) : gb124 ≠ gb112)); replace BK112 := Aside0.mk (aG_ (g := gb112) (o := .cells #[.string t108, .string t109, .int .i64 t110, .int .i64 t111] 63 (0, 0)) (kz BK112.out) hb); have NB118_124 := Aside0.mk ((by rw [hg]; exact Nat.ne_of_lt (bM_ (g := gb118) (o := .cells #[.string t114, .string t115, .int .i64 t116, .int .i64 t117] 63 (0, 0)) (kz BK118.out)) : gb118 ≠ gb124)); have NB124_118 := Aside0.mk ((by rw [hg]; exact Nat.ne_of_gt (bM_ (g := gb118) (o := .cells #[.string t114, .string t115, .int .i64 t116, .int .i64 t117] 63 (0, 0)) (kz BK118.out)) : gb124 ≠ gb118)); replace BK118 := Aside0.mk (aG_ (g := gb118) (o := .cells #[.string t114, .string t115, .int .i64 t116, .int .i64 t117] 63 (0, 0)) (kz BK118.out) hb); clear hb hbox hg; have hnb26 := NB124_112.out; have hnc26 := NB112_124.out; have hnb27 := NB124_118.out; have hnc27 := NB118_124.out; have hcz28_0 : w25.cell? ⟨gb124, 0, none⟩ = some (.string (⟨#[]⟩ : ByteArray)) := (ab_ BK124.out 0).trans rfl; have hcz28_1 : w25.cell? ⟨gb124, 1, none⟩ = some (.string (⟨#[]⟩ : ByteArray)) := (ab_ BK124.out 1).trans rfl; have hcz28_2 : w25.cell? ⟨gb124, 2, none⟩ = some (.int .i64 0) := (ab_ BK124.out 2).trans rfl; have hcz28_3 : w25.cell? ⟨gb124, 3, none⟩ = some (.int .i64 0) := (ab_ BK124.out 3).trans rfl; have hfz28_0 := aa_ BK124.out 0; have hfz28_1 := aa_ BK124.out 1; have hfz28_2 := aa_ BK124.out 2; have hfz28_3 := aa_ BK124.out 3; have hcz29_0 : w25.cell? ⟨gb112, 0, none⟩ = some (.string t108) := (ab_ BK112.out 0).trans rfl; have hcz29_1 : w25.cell? ⟨gb112, 1, none⟩ = some (.string t109) := (ab_ BK112.out 1).trans rfl; have hcz29_2 : w25.cell? ⟨gb112, 2, none⟩ = some (.int .i64 t110) := (ab_ BK112.out 2).trans rfl; have hcz29_3 : w25.cell? ⟨gb112, 3, none⟩ = some (.int .i64 t111) := (ab_ BK112.out 3).trans rfl; have hfz29_0 := aa_ BK112.out 0; have hfz29_1 := aa_ BK112.out 1; have hfz29_2 := aa_ BK112.out 2; have hfz29_3 := aa_ BK112.out 3; have hcz30_0 : w25.cell? ⟨gb118, 0, none⟩ = some (.string t114) := (ab_ BK118.out 0).trans rfl; have hcz30_1 : w25.cell? ⟨gb118, 1, none⟩ = some (.string t115) := (ab_ BK118.out 1).trans rfl; have hcz30_2 : w25.cell? ⟨gb118, 2, none⟩ = some (.int .i64 t116) := (ab_ BK118.out 2).trans rfl; have hcz30_3 : w25.cell? ⟨gb118, 3, none⟩ = some (.int .i64 t117) := (ab_ BK118.out 3).trans rfl; have hfz30_0 := aa_ BK118.out 0; have hfz30_1 := aa_ BK118.out 1; have hfz30_2 := aa_ BK118.out 2; have hfz30_3 := aa_ BK118.out 3))
   (try simp only [Act.put, lsa_, ls0_, ls1_])
   have H := HC15.out
   clear HC15
   by_cases c31 : (!(t114.toList == t120.toList) || ((!(t115.toList == t121.toList) || (!(t116 == t122) || (!(t117 == t123)))))) = true
   rotate_left
   ·rw [if_neg c31] at H
    have c31b0 : (!(t114.toList == t120.toList) || ((!(t115.toList == t121.toList) || (!(t116 == t122) || (!(t117 == t123)))))) = false := by simpa using c31
    clear c31
    (first | rw [c31b0] | (simp only [i64_w, i32_w]; rw [c31b0]) | (simp only [c31b1, Bool.not_true, Bool.not_false]) | (simp only [c31b0, Bool.not_true, Bool.not_false]) | skip)
    have H' := Aside0.mk H
    clear H
    go_wp2
    go_roundg k1
    case measure => have := HK1.out; omega
    case rel => exact ⟨(x8_1), (wrap64 (x9_1 + 1)), (by first | rfl | (simp; done) | (simp [*]; done)), H', ⟨by have := HK1.out; omega⟩, ⟨rz (Kd.aK_ (Kd.R_far (p := ⟨gb124, 3, none⟩) (Kd.R_far (p := ⟨gb124, 2, none⟩) (Kd.R_far (p := ⟨gb124, 1, none⟩) (Kd.R_far (p := ⟨gb124, 0, none⟩) (Kd.bp_ HO_7.out BK124.out (by decide)) (fun _ hk => hk.2) (.string t120)) (fun _ hk => hk.2) (.string t121)) (fun _ hk => hk.2) (.int .i64 t122)) (fun _ hk => hk.2) (.int .i64 t123)) (fun _ hk => hk.1))⟩, ⟨rz (Kd.aK_ (Kd.R_far (p := ⟨gb124, 3, none⟩) (Kd.R_far (p := ⟨gb124, 2, none⟩) (Kd.R_far (p := ⟨gb124, 1, none⟩) (Kd.R_far (p := ⟨gb124, 0, none⟩) (Kd.bp_ HO_8.out BK124.out (by decide)) (fun _ hk => hk.2) (.string t120)) (fun _ hk => hk.2) (.string t121)) (fun _ hk => hk.2) (.int .i64 t122)) (fun _ hk => hk.2) (.int .i64 t123)) (fun _ hk => hk.1))⟩, ⟨by repeat (first | (with_reducible first | exact HB.out | apply bA_ | apply bN_ | apply bD_ | refine ac_ ?_ GE112.out | refine ac_ ?_ GE118.out | refine ac_ ?_ GE124.out) | exact HB.out)⟩⟩
   rw [if_pos c31] at H
   have c31b0 : (!(t114.toList == t120.toList) || ((!(t115.toList == t121.toList) || (!(t116 == t122) || (!(t117 == t123)))))) = true := c31
   clear c31
   (first | rw [c31b0] | (simp only [i64_w, i32_w]; rw [c31b0]) | (simp only [c31b1, Bool.not_true, Bool.not_false]) | (simp only [c31b0, Bool.not_true, Bool.not_false]) | skip)
   by_cases c32 : x8_1.length < 8796093022208
   rotate_left
   ·rw [if_neg c32] at H
    exact absurd H (by simp)
   rw [if_pos c32] at H
   have LMc32 := Aside0.mk c32
   clear c32
   obtain ⟨y126, hy126⟩ : ∃ y_ : List ByteArray, y_ = (x8_1 ++ [rdOf ByteArray.empty t101 x9_1]) := ⟨_, rfl⟩
   replace H : (bq_.l0 k1 l0 l1 l2 t101 y126 (wrap64 (x9_1 + 1))) = some r := by first | (rw [hy126]; with_reducible exact H) | (have H2_ := (Option.bind_some _ _).symm.trans H; rw [hy126]; with_reducible exact H2_) | (have H2_ := (Option.bind_some _ _).symm.trans H; with_reducible exact H2_) | with_reducible exact H | (rw [hy126]; exact H) | exact H
   have Ny126 := Aside0.mk hy126
   clear hy126
   have H' := Aside0.mk H
   clear H
   have p125 : 0 ≤ (x9_1 : Int) := of_decide_eq_true (by assumption)
   have q125 : x9_1 < (t101.length : Int) := of_decide_eq_true (by assumption)
   obtain ⟨ad125, e125, hx125_0⟩ := Kd.co_ (Kd.bf_ HO_7.out).2.2 x9_1 p125 q125
   obtain rfl : ad107 = ad125 := (by injection e125)
   have hn125_0 : ad107.block ≠ gb124 := Kd.cn_ (Kd.R_ne HO_7.out BK124.out (by decide))
   have hn125_1 : ad107.block ≠ gb124 := Kd.cn_ (Kd.R_ne HO_7.out BK124.out (by decide))
   have hn125_2 : ad107.block ≠ gb124 := Kd.cn_ (Kd.R_ne HO_7.out BK124.out (by decide))
   have hn125_3 : ad107.block ≠ gb124 := Kd.cn_ (Kd.R_ne HO_7.out BK124.out (by decide))
   replace hx125_0 := (cell_far (p := ⟨gb124, 0, none⟩) (by first | (rw [add_block]; exact hn125_0) | (show (Addr.add _ _).block ≠ _; rw [add_block]; exact hn125_0) | exact hn125_0) (.string t120)).trans hx125_0
   replace hx125_0 := (cell_far (p := ⟨gb124, 1, none⟩) (by first | (rw [add_block]; exact hn125_1) | (show (Addr.add _ _).block ≠ _; rw [add_block]; exact hn125_1) | exact hn125_1) (.string t121)).trans hx125_0
   replace hx125_0 := (cell_far (p := ⟨gb124, 2, none⟩) (by first | (rw [add_block]; exact hn125_2) | (show (Addr.add _ _).block ≠ _; rw [add_block]; exact hn125_2) | exact hn125_2) (.int .i64 t122)).trans hx125_0
   replace hx125_0 := (cell_far (p := ⟨gb124, 3, none⟩) (by first | (rw [add_block]; exact hn125_3) | (show (Addr.add _ _).block ≠ _; rw [add_block]; exact hn125_3) | exact hn125_3) (.int .i64 t123)).trans hx125_0
   clear hn125_0
   clear hn125_1
   clear hn125_2
   clear hn125_3
   replace p125 := eq_true p125
   replace q125 := eq_true q125
   go_wp2_with (first | ((with_reducible refine bn_ (b := .append) (xs := #[.tmp 55, .tmp 60]) rfl ?_); at_builtin; refine Kd.ck_ Kd.string (w0 := w) w.heap.size rfl (.tmp 55) (.tmp 60) 24 9 (.string ⟨#[]⟩) 16 rfl Try.underlying24 info9 rfl (by decide) (by omega) u8 x8_1 (rdOf ByteArray.empty t101 x9_1) [.string (rdOf ByteArray.empty t101 x9_1)] (fun k_ => some k_ ≠ (.slice (some ad107) t101.length co16 : Value).ownBlock) (fun _ => False) rfl (by first | (go_simp; done) | (go_simp; rfl)) ?aP (fun _ hk => hk.elim) ?aF ?aO ?aB ?aS ?aL ?_; (case aP => exact rfl); (case aB => exact (by repeat (first | (with_reducible first | exact HB.out | apply bA_ | apply bN_ | apply bD_ | refine ac_ ?_ GE112.out | refine ac_ ?_ GE118.out | refine ac_ ?_ GE124.out) | exact HB.out))); (case aF => exact (fun k_ hk => Kd.fresh' (Kd.R_lt (rz (Kd.aK_ (Kd.R_far (p := ⟨gb124, 3, none⟩) (Kd.R_far (p := ⟨gb124, 2, none⟩) (Kd.R_far (p := ⟨gb124, 1, none⟩) (Kd.R_far (p := ⟨gb124, 0, none⟩) (Kd.bp_ HO_7.out BK124.out (by decide)) (fun _ hk => hk.2) (.string t120)) (fun _ hk => hk.2) (.string t121)) (fun _ hk => hk.2) (.int .i64 t122)) (fun _ hk => hk.2) (.int .i64 t123)) (fun _ h_ => h_.1)))) k_ hk)); (case aO => exact (rz (Kd.aK_ (Kd.R_far (p := ⟨gb124, 3, none⟩) (Kd.R_far (p := ⟨gb124, 2, none⟩) (Kd.R_far (p := ⟨gb124, 1, none⟩) (Kd.R_far (p := ⟨gb124, 0, none⟩) (Kd.bp_ HO_8.out BK124.out (by decide)) (fun _ hk => hk.2) (.string t120)) (fun _ hk => hk.2) (.string t121)) (fun _ hk => hk.2) (.int .i64 t122)) (fun _ hk => hk.2) (.int .i64 t123)) (fun _ hk => hk.1)))); (case aS => exact (ae_ (by repeat (first | (with_reducible first | exact HB.out | apply bA_ | apply bN_ | apply bD_ | refine ac_ ?_ GE112.out | refine ac_ ?_ GE118.out | refine ac_ ?_ GE124.out) | exact HB.out)))); (case aL => have := LMc32.out; omega); intro v127 w33 ho hb hg hat; rw [← Ny126.out] at ho; replace HO_7 := Aside0.mk (Kd.R_after (ok := (fun _ => True)) (rz (Kd.aK_ (Kd.R_far (p := ⟨gb124, 3, none⟩) (Kd.R_far (p := ⟨gb124, 2, none⟩) (Kd.R_far (p := ⟨gb124, 1, none⟩) (Kd.R_far (p := ⟨gb124, 0, none⟩) (Kd.bp_ HO_7.out BK124.out (by decide)) (fun _ hk => hk.2) (.string t120)) (fun _ hk => hk.2) (.string t121)) (fun _ hk => hk.2) (.int .i64 t122)) (fun _ hk => hk.2) (.int .i64 t123)) (fun _ hk => ⟨trivial, hk.1⟩))) hg hat); replace BK112 := Aside0.mk (bW_ (g := gb112) (o := .cells #[.string t108, .string t109, .int .i64 t110, .int .i64 t111] 63 (0, 0)) (by (with_reducible repeat (first | refine ai_ ?_ _ | refine aj_ ?_ | refine ah_ ?_ _)); refine bG_ ?_ NB112_124.out _; (with_reducible repeat (first | refine ai_ ?_ _ | refine aj_ ?_ | refine ah_ ?_ _)); refine bG_ ?_ NB112_124.out _; (with_reducible repeat (first | refine ai_ ?_ _ | refine aj_ ?_ | refine ah_ ?_ _)); refine bG_ ?_ NB112_124.out _; (with_reducible repeat (first | refine ai_ ?_ _ | refine aj_ ?_ | refine ah_ ?_ _)); refine bG_ ?_ NB112_124.out _; (with_reducible repeat (first | refine ai_ ?_ _ | refine aj_ ?_ | refine ah_ ?_ _)); exact BK112.out) hg (Kd.R_ne HO_8.out BK112.out (by decide))); replace BK118 := Aside0.mk (bW_ (g := gb118) (o := .cells #[.string t114, .string t115, .int .i64 t116, .int .i64 t117] 63 (0, 0)) (by (with_reducible repeat (first | refine ai_ ?_ _ | refine aj_ ?_ | refine ah_ ?_ _)); refine bG_ ?_ NB118_124.out _; (with_reducible repeat (first | refine ai_ ?_ _ | refine aj_ ?_ | refine ah_ ?_ _)); refine bG_ ?_ NB118_124.out _; (with_reducible repeat (first | refine ai_ ?_ _ | refine aj_ ?_ | refine ah_ ?_ _)); refine bG_ ?_ NB118_124.out _; (with_reducible repeat (first | refine ai_ ?_ _ | refine aj_ ?_ | refine ah_ ?_ _)); refine bG_ ?_ NB118_124.out _; (with_reducible repeat (first | refine ai_ ?_ _ | refine aj_ ?_ | refine ah_ ?_ _)); exact BK118.out) hg (Kd.R_ne HO_8.out BK118.out (by decide))); replace BK124 := Aside0.mk (bW_ (g := gb124) (o := .cells #[.string t120, .string t121, .int .i64 t122, .int .i64 t123] 63 (0, 0)) (by (with_reducible repeat (first | refine ai_ ?_ _ | refine aj_ ?_ | refine ah_ ?_ _)); refine aB_ (cs := #[.string t120, .string t121, .int .i64 t122, .int .i64 0]) ?_ 3 _ rfl; (with_reducible repeat (first | refine ai_ ?_ _ | refine aj_ ?_ | refine ah_ ?_ _)); refine aB_ (cs := #[.string t120, .string t121, .int .i64 0, .int .i64 0]) ?_ 2 _ rfl; (with_reducible repeat (first | refine ai_ ?_ _ | refine aj_ ?_ | refine ah_ ?_ _)); refine aB_ (cs := #[.string t120, .string (⟨#[]⟩ : ByteArray), .int .i64 0, .int .i64 0]) ?_ 1 _ rfl; (with_reducible repeat (first | refine ai_ ?_ _ | refine aj_ ?_ | refine ah_ ?_ _)); refine aB_ (cs := #[.string (⟨#[]⟩ : ByteArray), .string (⟨#[]⟩ : ByteArray), .int .i64 0, .int .i64 0]) ?_ 0 _ rfl; (with_reducible repeat (first | refine ai_ ?_ _ | refine aj_ ?_ | refine ah_ ?_ _)); exact BK124.out) hg (Kd.R_ne HO_8.out BK124.out (by decide))); replace HB := Aside0.mk (hb); have HO128 := Aside0.mk (ho); clear HO_8; clear ho hb hg hat))
   go_roundg k1
   case measure => have := HK1.out; omega
   case rel => exact ⟨(y126), (wrap64 (x9_1 + 1)), (by first | rfl | (simp; done) | (simp [*]; done)), H', ⟨by have := HK1.out; omega⟩, ⟨rz (Kd.aK_ HO_7.out (fun _ hk => hk.2))⟩, ⟨rz HO128.out⟩, ⟨by repeat (first | (with_reducible first | exact HB.out | apply bA_ | apply bN_ | apply bD_ | refine ac_ ?_ GE112.out | refine ac_ ?_ GE118.out | refine ac_ ?_ GE124.out) | exact HB.out)⟩⟩
def bc_.l0 : Nat → List (S63) → List (S63) → List (S63) → List ByteArray → List (S63) → Int → Option ((List (S63)) × Int)
 | 0, _, _, _, _, _, _ => none
 | k + 1, x0, x1, x2, x8, x9, x10 => if x10 < (x8.length : Int) then (if 0 ≤ x10 then ((bQ_.f k x1 (rdOf ByteArray.empty x8 x10)).bind fun bt111 => ((bQ_.f k x0 (rdOf ByteArray.empty x8 x10)).bind fun bt117 => (if (bt111.1.toList == bt117.1.toList && ((bt111.2.1.toList == bt117.2.1.toList && (bt111.2.2.1 == bt117.2.2.1 && (bt111.2.2.2 == bt117.2.2.2))))) = true then ((bQ_.f k x2 (rdOf ByteArray.empty x8 x10)).bind fun bt122 => (if bt122.1.toList = ([] : List UInt8) then (bc_.l0 k x0 x1 x2 x8 x9 (wrap64 (x10 + 1))) else (if x9.length < 2932031007402 then (bc_.l0 k x0 x1 x2 x8 (x9 ++ [(⟨bt122.1, (⟨bt122.2.1, bt122.2.2.1, bt122.2.2.2⟩ : S61)⟩ : S63)]) (wrap64 (x10 + 1))) else (none)))) else (if bt111.1.toList = ([] : List UInt8) then (bc_.l0 k x0 x1 x2 x8 x9 (wrap64 (x10 + 1))) else (if x9.length < 2932031007402 then (bc_.l0 k x0 x1 x2 x8 (x9 ++ [(⟨bt111.1, (⟨bt111.2.1, bt111.2.2.1, bt111.2.2.2⟩ : S61)⟩ : S63)]) (wrap64 (x10 + 1))) else (none)))))) else (none)) else (if (x9.length : Int) > 24 then (some (([] : List (S63)), 5)) else (some (x9, 0)))
def bc_.f (k : Nat) (l0 : List (S63)) (l1 : List (S63)) (l2 : List (S63)) : Option ((List (S63)) × Int) := (bq_.f k l0 l1 l2).bind fun t101 => (if (t101.length : Int) > 0 then (some (([] : List (S63)), 6)) else ((ax_.f k l0 l1 l2).bind fun t104 => (bc_.l0 k l0 l1 l2 t104 (([] : List (S63))) 0)))
def bc_.T9 : Bool × List (List Nat × List Nat) := (true, [([], []), ([], []), ([], []), ([], []), ([2, 3], [2, 3]), ([4], [4]), ([1, 5], [1, 5]), ([0, 6], [0, 6])])
def bc_.B9 : List Nat := [0, 0, 0, 0, 12, 28, 62, 127]
theorem bc_.tab9 : rtab .any (opsOf Try.f44 9) = bc_.T9 := by kernel_rfl
theorem bc_.bits9 : dy_ bc_.T9.2 bc_.B9 = true := by kernel_rfl
set_option maxHeartbeats 8000000 in
set_option maxRecDepth 100000 in
theorem bc_.calls (k : Nat) (A0 : Option Addr) (c0 : Nat) (l0 : List (S63)) (A1 : Option Addr) (c1 : Nat) (l1 : List (S63)) (A2 : Option Addr) (c2 : Nat) (l2 : List (S63)) (r1 : List (S63)) (r2 : Int) (w : World) (hr0 : Kd.C k63 w A0 l0.length l0) (hc0 : l0.length ≤ c0) (hr1 : Kd.C k63 w A1 l1.length l1) (hc1 : l1.length ≤ c1) (hr2 : Kd.C k63 w A2 l2.length l2) (hc2 : l2.length ≤ c2) (h : bc_.f k l0 l1 l2 = some (r1, r2)) :
  Calls Try.prog 44 #[.slice A0 l0.length c0, .slice A1 l1.length c1, .slice A2 l2.length c2] w fun e w' => ∃ v0_ : Value, e = .returned (.tuple #[v0_, .int .i64 r2]) ∧ Kd.R k63 63 w' w.heap.size (fun _ => True) v0_ r1 ∧ Below w.heap.size w w' := by
 have hu63 := Try.underlying63
 have HR0 := Aside0.mk hr0
 have HC0 := Aside0.mk hc0
 clear hr0 hc0
 have HR1 := Aside0.mk hr1
 have HC1 := Aside0.mk hc1
 clear hr1 hc1
 have HR2 := Aside0.mk hr2
 have HC2 := Aside0.mk hc2
 clear hr2 hc2
 have HB := Aside0.mk (Below.refl w.heap.size w)
 have H : ((bq_.f k l0 l1 l2).bind fun t101 => (if (t101.length : Int) > 0 then (some (([] : List (S63)), 6)) else ((ax_.f k l0 l1 l2).bind fun t104 => (bc_.l0 k l0 l1 l2 t104 (([] : List (S63))) 0)))) = some (r1, r2) := h
 clear h
 replace H := Option.bind_eq_some_iff.mp H
 obtain ⟨t101, A40, H⟩ := H
 (try dsimp only at H)
 have A4 := Aside0.mk A40
 clear A40
 have HC5 := Aside0.mk H
 clear H
 go_enter Try.func44, Try.ntmps44
 go_upto_if 17 with (first | ((with_reducible refine am_ (f := 37) rfl ?_); refine aX_ (some 15) rfl rfl Try.func37 (by kernel_rfl) rfl #[.slice A0 l0.length c0, .slice A1 l1.length c1, .slice A2 l2.length c2] rfl (by first | rfl | (simp only [List.map_toArray, List.map_cons, List.map_nil]; first | done | rfl)) ?_; (with_reducible refine (bq_.calls k _ _ l0 _ _ l1 _ _ l2 t101 _ ?side1 ?side2 ?side3 ?side4 ?side5 ?side6 A4.out).mono ?_); (case side1 => exact cz HR0.out); (case side2 => exact HC0.out); (case side3 => exact cz HR1.out); (case side4 => exact HC1.out); (case side5 => exact cz HR2.out); (case side6 => exact HC2.out); rintro e w6 ⟨v102, rfl, ho0, hb⟩; refine ⟨_, rfl, ?_⟩; have HO103 := Aside0.mk (Kd.bI_ ho0 (ae_ (bz HB.out))); replace HB := Aside0.mk (ag_ (bz HB.out) hb); (try clear hb); (try clear ho0); obtain ⟨Ao7, co7, eo7⟩ := Kd.bF_ HO103.out; subst eo7))
 (try simp only [Act.put, lsa_, ls0_, ls1_])
 have H := HC5.out
 clear HC5
 by_cases c8 : (t101.length : Int) > 0
 rotate_left
 ·rw [if_neg c8] at H
  have c8b0 : decide (0 < (t101.length : Int)) = false := decide_eq_false c8
  have c8b1 : decide (0 < t101.length) = false := decide_eq_false (by omega)
  clear c8
  (first | rw [c8b0] | (simp only [i64_w, i32_w]; rw [c8b0]) | (simp only [c8b1, Bool.not_true, Bool.not_false]) | (simp only [c8b0, Bool.not_true, Bool.not_false]) | skip)
  replace H := Option.bind_eq_some_iff.mp H
  obtain ⟨t104, A90, H⟩ := H
  (try dsimp only at H)
  have A9 := Aside0.mk A90
  clear A90
  obtain ⟨y107, hy107⟩ : ∃ y_ : List (S63), y_ = (([] : List (S63))) := ⟨_, rfl⟩
  replace H : (bc_.l0 k l0 l1 l2 t104 y107 0) = some (r1, r2) := by first | (rw [hy107]; with_reducible exact H) | (have H2_ := (Option.bind_some _ _).symm.trans H; rw [hy107]; with_reducible exact H2_) | (have H2_ := (Option.bind_some _ _).symm.trans H; with_reducible exact H2_) | with_reducible exact H | (rw [hy107]; exact H) | exact H
  have Ny107 := Aside0.mk hy107
  clear hy107
  have H' := Aside0.mk H
  clear H
  go_wp2_with (first | ((with_reducible refine am_ (f := 66) rfl ?_); refine aX_ (some 21) rfl rfl Try.func66 (by kernel_rfl) rfl #[.slice A0 l0.length c0, .slice A1 l1.length c1, .slice A2 l2.length c2] rfl (by first | rfl | (simp only [List.map_toArray, List.map_cons, List.map_nil]; first | done | rfl)) ?_; (with_reducible refine (ax_.calls k _ _ l0 _ _ l1 _ _ l2 t104 _ ?side1 ?side2 ?side3 ?side4 ?side5 ?side6 A9.out).mono ?_); (case side1 => exact cz (Kd.bE_ HR0.out HB.out)); (case side2 => exact HC0.out); (case side3 => exact cz (Kd.bE_ HR1.out HB.out)); (case side4 => exact HC1.out); (case side5 => exact cz (Kd.bE_ HR2.out HB.out)); (case side6 => exact HC2.out); rintro e w10 ⟨v105, rfl, ho0, hb⟩; refine ⟨_, rfl, ?_⟩; have HO106 := Aside0.mk (Kd.bI_ (Kd.bU_ ho0 (Kd.R_lt (rz HO103.out))) (ae_ (bz HB.out))); replace HO103 := Aside0.mk (Kd.bo_ (rz HO103.out) (Kd.bv_ ho0) hb); replace HB := Aside0.mk (ag_ (bz HB.out) hb); (try clear hb); (try clear ho0)) | ((with_reducible refine au_ (N := 22) rfl ?_); refine Kd.R_lit k63 _ 63 ?hg (N := 22) ?hd (xs := ([] : List (S63))) (inner := []) (ok := fun _ => True) (okp := fun _ => True) ?hr ?hp (fun _ hk => hk) trivial (Below.refl _ _) (Nat.le_refl _) (by simp) ?_; (case hd => rfl); (case hg => rfl); (case hr => (go_simp; try rfl)); (case hp => exact (Reps.none _ _)); intro v108 w11 ho12 hb hg_ hnew_; clear hg_ hnew_; (first | rw [← Ny107.out] at ho12 | (simp only [Int.reduceToNat] at ho12; rw [← Ny107.out] at ho12)); replace HO103 := Aside0.mk (Kd.aH_ (rz HO103.out) hb); replace HO106 := Aside0.mk (Kd.aH_ (rz HO106.out) hb); have HO109 := Aside0.mk (Kd.bI_ ho12 (ae_ (bz HB.out))); replace HB := Aside0.mk (ag_ (bz HB.out) hb); clear hb ho12))
  (try simp only [Act.put, lsa_, ls0_, ls1_])
  go_loopg [9, 10] k (fun kq v9 v10 w' => ∃ (x9_1 : List (S63)) (x10_1 : Int), v10 = .int .i64 x10_1 ∧ Aside0 (bc_.l0 kq l0 l1 l2 t104 x9_1 x10_1 = some (r1, r2)) ∧ Aside0 (kq ≤ k) ∧ Aside0 (Kd.R Kd.string 9 w' w.heap.size (fun _ => True) v105 t104) ∧ Aside0 (Kd.R k63 63 w' w.heap.size (fun _ => True) v9 x9_1) ∧ Aside0 (Below w.heap.size w w'))
  case atStart => exact ⟨(y107), (0), (by first | rfl | (simp; done) | (simp [*]; done)), H', ⟨Nat.le_refl _⟩, ⟨rz (Kd.aK_ HO106.out (fun _ hk => trivial))⟩, ⟨rz HO109.out⟩, ⟨bz HB.out⟩⟩
  case round =>
   clear H'
   obtain ⟨x9_1, x10_1, rfl, HA, HK1, HO_8, HO_9, HB⟩ := hrel
   cases gk with
   | zero => exact absurd HA.out (by simp [bc_.l0])
   | succ k1 =>
    have H := HA.out
    clear HA
    simp only [bc_.l0] at H
    by_cases c13 : x10_1 < (t104.length : Int)
    rotate_left
    ·rw [if_neg c13] at H
     have c13b0 : decide (x10_1 < (t104.length : Int)) = false := decide_eq_false c13
     clear c13
     by_cases c39 : (x9_1.length : Int) > 24
     rotate_left
     ·rw [if_neg c39] at H
      have c39b0 : decide (24 < (x9_1.length : Int)) = false := decide_eq_false c39
      have c39b1 : decide (24 < x9_1.length) = false := decide_eq_false (by omega)
      clear c39
      simp only [Option.some.injEq, Prod.mk.injEq] at H
      obtain ⟨rfl, rfl⟩ := H
      obtain ⟨Ao42, co42, eo42⟩ := Kd.bF_ HO_8.out
      subst eo42
      obtain ⟨Ao43, co43, eo43⟩ := Kd.bF_ HO_9.out
      subst eo43
      go_wp2
      go_ret2
      exact ⟨_, by first | rfl | (simp [*, an_, ao_] <;> rfl), rz HO_9.out, bz HB.out⟩
     rw [if_pos c39] at H
     have c39b0 : decide (24 < (x9_1.length : Int)) = true := decide_eq_true c39
     have c39b1 : decide (24 < x9_1.length) = true := decide_eq_true (by omega)
     clear c39
     simp only [Option.some.injEq, Prod.mk.injEq] at H
     obtain ⟨rfl, rfl⟩ := H
     obtain ⟨Ao40, co40, eo40⟩ := Kd.bF_ HO_8.out
     subst eo40
     obtain ⟨Ao41, co41, eo41⟩ := Kd.bF_ HO_9.out
     subst eo41
     go_wp2
     go_ret2
     exact ⟨_, by first | rfl | (simp [*, an_, ao_] <;> rfl), by first | exact Kd.R_nil _ _ _ _ _ | exact Kd.N_nil _ _ _ _ _ | exact Kd.V_nil _ _ _ _ _ | exact Kd.Q_nil _ _ _ _ _ | exact Kd.S_nil _ _ _ _ _, bz HB.out⟩
    rw [if_pos c13] at H
    have c13b0 : decide (x10_1 < (t104.length : Int)) = true := decide_eq_true c13
    clear c13
    by_cases c14 : 0 ≤ x10_1
    rotate_left
    ·rw [if_neg c14] at H
     exact absurd H (by simp)
    rw [if_pos c14] at H
    have c14b0 : decide (0 ≤ x10_1) = true := decide_eq_true c14
    clear c14
    replace H := Option.bind_eq_some_iff.mp H
    obtain ⟨⟨t111, t112, t113, t114⟩, A150, H⟩ := H
    (try dsimp only at H)
    have A15 := Aside0.mk A150
    clear A150
    replace H := Option.bind_eq_some_iff.mp H
    obtain ⟨⟨t117, t118, t119, t120⟩, A160, H⟩ := H
    (try dsimp only at H)
    have A16 := Aside0.mk A160
    clear A160
    have HC17 := Aside0.mk H
    clear H
    obtain ⟨Ao18, co18, eo18⟩ := Kd.bF_ HO_8.out
    subst eo18
    have p110 : 0 ≤ (x10_1 : Int) := of_decide_eq_true (by assumption)
    have q110 : x10_1 < (t104.length : Int) := of_decide_eq_true (by assumption)
    obtain ⟨ad110, e110, hx110_0⟩ := Kd.co_ (Kd.bf_ HO_8.out).2.2 x10_1 p110 q110
    cases e110
    replace p110 := eq_true p110
    replace q110 := eq_true q110
    try go_wp2_with (first | ((with_reducible refine am_ (f := 67) rfl ?_); refine aX_ (some 34) rfl rfl Try.func67 (by kernel_rfl) rfl #[.slice A1 l1.length c1, .string (rdOf ByteArray.empty t104 x10_1)] rfl (by first | rfl | (simp only [List.map_toArray, List.map_cons, List.map_nil]; first | done | rfl)) ?_; (with_reducible refine (bQ_.calls k1 _ _ l1 (rdOf ByteArray.empty t104 x10_1) t111 t112 t113 t114 _ ?side1 ?side2 A15.out).mono ?_); (case side1 => exact cz (Kd.bE_ HR1.out HB.out)); (case side2 => exact HC1.out); rintro e w19 ⟨rfl, hb⟩; refine ⟨_, rfl, ?_⟩; replace HO_8 := Aside0.mk (Kd.aH_ (rz HO_8.out) hb); replace HO_9 := Aside0.mk (Kd.aH_ (rz HO_9.out) hb); replace HB := Aside0.mk (ag_ (bz HB.out) hb); (try clear hb)) | ((with_reducible refine au_ (N := 11) rfl ?_); refine aQ_ ?hg (N := 11) ?hd (cs := #[.string (⟨#[]⟩ : ByteArray), .string (⟨#[]⟩ : ByteArray), .int .i64 0, .int .i64 0]) (t := 63) ?hr ?_; (case hd => rfl); (case hg => rfl); (case hr => (go_simp; try rfl)); intro gb115 hg w20 hbox hb; replace HO_8 := Aside0.mk (Kd.aH_ (rz HO_8.out) hb); replace HO_9 := Aside0.mk (Kd.aH_ (Kd.R_elderB (rz HO_9.out) gb115 (Nat.le_of_eq hg.symm)) hb); have BK115 := Aside0.mk (hbox); have GW115 := Aside0.mk ((by rw [hg]; exact (ae_ (bz HB.out)) : w.heap.size ≤ gb115)); have GE115 := Aside0.mk ((by rw [hg]; exact (ae_ (bz HB.out)) : w.heap.size ≤ gb115)); replace HB := Aside0.mk (ag_ (bz HB.out) hb); clear hb hbox hg; have hcz21_0 : w20.cell? ⟨gb115, 0, none⟩ = some (.string (⟨#[]⟩ : ByteArray)) := (ab_ BK115.out 0).trans rfl; have hcz21_1 : w20.cell? ⟨gb115, 1, none⟩ = some (.string (⟨#[]⟩ : ByteArray)) := (ab_ BK115.out 1).trans rfl; have hcz21_2 : w20.cell? ⟨gb115, 2, none⟩ = some (.int .i64 0) := (ab_ BK115.out 2).trans rfl; have hcz21_3 : w20.cell? ⟨gb115, 3, none⟩ = some (.int .i64 0) := (ab_ BK115.out 3).trans rfl; have hfz21_0 := aa_ BK115.out 0; have hfz21_1 := aa_ BK115.out 1; have hfz21_2 := aa_ BK115.out 2; have hfz21_3 := aa_ BK115.out 3))
    have n0_ : Aside0 (Kd.R Kd.string 9 ((((w20.setCell ⟨gb115, 0, none⟩ (.string t111)).setCell ⟨gb115, 1, none⟩ (.string t112)).setCell ⟨gb115, 2, none⟩ (.int .i64 t113)).setCell ⟨gb115, 3, none⟩ (.int .i64 t114)) w.heap.size (fun _ => True) (.slice (some ad110) t104.length co18) t104) := ⟨rz (Kd.aK_ (Kd.R_far (p := ⟨gb115, 3, none⟩) (Kd.R_far (p := ⟨gb115, 2, none⟩) (Kd.R_far (p := ⟨gb115, 1, none⟩) (Kd.R_far (p := ⟨gb115, 0, none⟩) (Kd.bp_ HO_8.out BK115.out (by decide)) (fun _ hk => hk.2) (.string t111)) (fun _ hk => hk.2) (.string t112)) (fun _ hk => hk.2) (.int .i64 t113)) (fun _ hk => hk.2) (.int .i64 t114)) (fun _ hk => trivial))⟩
    have n1_ : Aside0 (Kd.R k63 63 ((((w20.setCell ⟨gb115, 0, none⟩ (.string t111)).setCell ⟨gb115, 1, none⟩ (.string t112)).setCell ⟨gb115, 2, none⟩ (.int .i64 t113)).setCell ⟨gb115, 3, none⟩ (.int .i64 t114)) w.heap.size (fun k_ => k_ ≠ gb115) u9 x9_1) := ⟨rz (Kd.aK_ (Kd.R_far (p := ⟨gb115, 3, none⟩) (Kd.R_far (p := ⟨gb115, 2, none⟩) (Kd.R_far (p := ⟨gb115, 1, none⟩) (Kd.R_far (p := ⟨gb115, 0, none⟩) (Kd.aK_ HO_9.out (fun k_ hk => (⟨hk, hk.2⟩ : _ ∧ k_ ≠ gb115))) (fun _ hk => hk.2) (.string t111)) (fun _ hk => hk.2) (.string t112)) (fun _ hk => hk.2) (.int .i64 t113)) (fun _ hk => hk.2) (.int .i64 t114)) (fun _ hk => hk.1.2))⟩
    have n2_ : Aside0 (((((w20.setCell ⟨gb115, 0, none⟩ (.string t111)).setCell ⟨gb115, 1, none⟩ (.string t112)).setCell ⟨gb115, 2, none⟩ (.int .i64 t113)).setCell ⟨gb115, 3, none⟩ (.int .i64 t114)).heap[gb115]? = some (.cells #[.string t111, .string t112, .int .i64 t113, .int .i64 t114] 63 (0, 0))) := ⟨by (with_reducible repeat (first | refine ai_ ?_ _ | refine aj_ ?_ | refine ah_ ?_ _)); refine aB_ (cs := #[.string t111, .string t112, .int .i64 t113, .int .i64 0]) ?_ 3 _ rfl; (with_reducible repeat (first | refine ai_ ?_ _ | refine aj_ ?_ | refine ah_ ?_ _)); refine aB_ (cs := #[.string t111, .string t112, .int .i64 0, .int .i64 0]) ?_ 2 _ rfl; (with_reducible repeat (first | refine ai_ ?_ _ | refine aj_ ?_ | refine ah_ ?_ _)); refine aB_ (cs := #[.string t111, .string (⟨#[]⟩ : ByteArray), .int .i64 0, .int .i64 0]) ?_ 1 _ rfl; (with_reducible repeat (first | refine ai_ ?_ _ | refine aj_ ?_ | refine ah_ ?_ _)); refine aB_ (cs := #[.string (⟨#[]⟩ : ByteArray), .string (⟨#[]⟩ : ByteArray), .int .i64 0, .int .i64 0]) ?_ 0 _ rfl; (with_reducible repeat (first | refine ai_ ?_ _ | refine aj_ ?_ | refine ah_ ?_ _)); exact BK115.out⟩
    have n3_ : Aside0 (Below w.heap.size w ((((w20.setCell ⟨gb115, 0, none⟩ (.string t111)).setCell ⟨gb115, 1, none⟩ (.string t112)).setCell ⟨gb115, 2, none⟩ (.int .i64 t113)).setCell ⟨gb115, 3, none⟩ (.int .i64 t114))) := ⟨by repeat (first | (with_reducible first | exact HB.out | apply bA_ | apply bN_ | apply bD_ | refine ac_ ?_ GE115.out) | exact HB.out)⟩
    (try clear HO_8)
    (try clear HO_9)
    (try clear BK115)
    (try clear HB)
    generalize ((((w20.setCell ⟨gb115, 0, none⟩ (.string t111)).setCell ⟨gb115, 1, none⟩ (.string t112)).setCell ⟨gb115, 2, none⟩ (.int .i64 t113)).setCell ⟨gb115, 3, none⟩ (.int .i64 t114)) = w22 at n0_ n1_ n2_ n3_ ⊢
    have HO_8 := n0_
    have HO_9 := n1_
    have BK115 := n2_
    have HB := n3_
    clear n0_ n1_ n2_ n3_
    have n0_ := Aside0.mk (Kd.R_drew HO_8.out)
    have n1_ := Aside0.mk (Kd.R_drew HO_9.out)
    have n2_ := Aside0.mk (aj_ BK115.out)
    have n3_ := Aside0.mk (bD_ HB.out)
    clear HO_8
    clear HO_9
    clear BK115
    clear HB
    have HO_8 := n0_
    have HO_9 := n1_
    have BK115 := n2_
    have HB := n3_
    clear n0_ n1_ n2_ n3_
    have p116 : 0 ≤ (x10_1 : Int) := of_decide_eq_true (by assumption)
    have q116 : x10_1 < (t104.length : Int) := of_decide_eq_true (by assumption)
    obtain ⟨ad116, e116, hx116_0⟩ := Kd.co_ (Kd.bf_ HO_8.out).2.2 x10_1 p116 q116
    obtain rfl : ad110 = ad116 := (by injection e116)
    replace p116 := eq_true p116
    replace q116 := eq_true q116
    refine start_ (n := 8) (S := fun w' => w'.cell? ⟨gb115, 0, none⟩ = some (.string t111) ∧ w'.cell? ⟨gb115, 1, none⟩ = some (.string t112) ∧ w'.cell? ⟨gb115, 2, none⟩ = some (.int .i64 t113) ∧ w'.cell? ⟨gb115, 3, none⟩ = some (.int .i64 t114) ∧ w'.cell? (ad110.add (x10_1).toNat) = some (.string (rdOf ByteArray.empty t104 x10_1))) (ds := []) #[f_,f_,f_,f_,f_,f_,f_,f_] (by kernel_rfl) rfl rfl ⟨(ab_ BK115.out 0).trans rfl, (ab_ BK115.out 1).trans rfl, (ab_ BK115.out 2).trans rfl, (ab_ BK115.out 3).trans rfl, hx116_0⟩ (fun hHeld => ?_); refine cS_ bc_.tab9 bc_.bits9 (fun HT_ HW_ => ?_)
    generalize w22.drew = w23 at HO_8 HO_9 BK115 HB hx116_0 hHeld ⊢
    refine pure_ (i := 1) (N := some 36) (v := ?_) (a' := ?_) #[f_,t_,f_,f_,f_,f_,f_,f_] rfl rfl (aF_ HT_.out (by kernel_rfl)) (fun _ _ _ h => h) (Or.inl ⟨by rfl, ?_⟩) ?_ ?_
    rotate_left
    ·intro w'
     go_simp
     with_reducible rfl
    rotate_left
    ·simp only [Act.put, lsa_, ls0_, ls1_, i64_w, i32_w]
     rfl
    refine pure_ (i := 2) (N := some 37) (v := ?_) (a' := ?_) #[f_,t_,t_,f_,f_,f_,f_,f_] rfl rfl (aF_ HT_.out (by kernel_rfl)) (fun _ _ _ h => h) (Or.inl ⟨by rfl, ?_⟩) ?_ ?_
    rotate_left
    ·intro w'
     go_simp
     with_reducible rfl
    rotate_left
    ·simp only [Act.put, lsa_, ls0_, ls1_, i64_w, i32_w]
     rfl
    refine pure_ (i := 3) (N := some 38) (v := ?_) (a' := ?_) #[f_,t_,t_,t_,f_,f_,f_,f_] rfl rfl (aF_ HT_.out (by kernel_rfl)) (fun _ _ _ h => h) (Or.inl ⟨by rfl, ?_⟩) ?_ ?_
    rotate_left
    ·intro w'
     go_simp
     with_reducible rfl
    rotate_left
    ·simp only [Act.put, lsa_, ls0_, ls1_, i64_w, i32_w]
     rfl
    refine pure_ (i := 4) (N := some 39) (v := ?_) (a' := ?_) #[f_,t_,t_,t_,t_,f_,f_,f_] rfl rfl (aF_ HT_.out (by kernel_rfl)) (fun _ _ _ h => h) (Or.inl ⟨by rfl, ?_⟩) ?_ ?_
    rotate_left
    ·intro w'
     go_simp
     with_reducible rfl
    rotate_left
    ·simp only [Act.put, lsa_, ls0_, ls1_, i64_w, i32_w]
     rfl
    refine take_ (i := 0) (N := some 35) (v := ?_) (a' := ?_) #[t_,t_,t_,t_,t_,f_,f_,f_] rfl rfl (cJ_ HT_.out HW_.out (by kernel_rfl)) (fun _ _ _ h => h) (Or.inl ⟨by rfl, ?_⟩) hHeld ?_ ?_
    rotate_left
    ·rintro w' ⟨s0, s1, s2, s3, s4⟩
     go_simp
     with_reducible rfl
    rotate_left
    ·simp only [Act.put, lsa_, ls0_, ls1_, i64_w, i32_w]
     rfl
    refine take_ (i := 5) (N := some 40) (v := ?_) (a' := ?_) #[t_,t_,t_,t_,t_,t_,f_,f_] rfl rfl (cJ_ HT_.out HW_.out (by kernel_rfl)) (fun _ _ _ h => h) (Or.inl ⟨by rfl, ?_⟩) hHeld ?_ ?_
    rotate_left
    ·rintro w' ⟨s0, s1, s2, s3, s4⟩
     go_simp
     with_reducible rfl
    rotate_left
    ·simp only [Act.put, lsa_, ls0_, ls1_, i64_w, i32_w]
     rfl
    refine one_ (i := 6) (N := some 41) #[t_,t_,t_,t_,t_,t_,t_,f_] rfl rfl (dD_ HT_.out (by kernel_rfl)) (by decide) (fun K hK => ?_)
    (first | refine goes_ Try.func67 (by kernel_rfl) rfl #[.slice A0 l0.length c0, .string (rdOf ByteArray.empty t104 x10_1)] (by rfl) rfl rfl (by first | rfl | (simp only [List.map_toArray, List.map_cons, List.map_nil]; first | done | rfl)) ?_ | refine RPW.goesV_ Try.func67 (by kernel_rfl) rfl #[.slice A0 l0.length c0, .string (rdOf ByteArray.empty t104 x10_1)] (by rfl) rfl rfl rfl (by first | rfl | (simp only [List.map_toArray, List.map_cons, List.map_nil]; first | done | rfl)) ?_ | refine RPW.goesC_ Try.func67 (by kernel_rfl) rfl #[.slice A0 l0.length c0, .string (rdOf ByteArray.empty t104 x10_1)] (by rfl) rfl rfl rfl (by first | rfl | (simp only [List.map_toArray, List.map_cons, List.map_nil]; first | done | rfl)) ?_)
    with_reducible refine (bQ_.calls k1 _ _ l0 (rdOf ByteArray.empty t104 x10_1) t117 t118 t119 t120 _ ?side1 ?side2 A16.out).mono ?_
    (case side1 => exact cz (Kd.bE_ HR0.out HB.out))
    (case side2 => exact HC0.out)
    rintro e w24 ⟨rfl, hb⟩
    have HS4_ := (hb.cell (bl_ _ _ (hHeld.2.2.2.2))).trans (hHeld.2.2.2.2)
    refine ⟨_, rfl, ?_⟩
    have n0_ := Aside0.mk (Kd.aH_ (rz HO_8.out) hb)
    have n1_ := Aside0.mk (Kd.aH_ (rz HO_9.out) hb)
    have n2_ := Aside0.mk (aG_ (g := gb115) (o := .cells #[.string t111, .string t112, .int .i64 t113, .int .i64 t114] 63 (0, 0)) (kz BK115.out) hb)
    have n3_ := Aside0.mk (ag_ (by repeat (first | (with_reducible first | exact HB.out | apply bA_ | apply bN_ | apply bD_ | refine ac_ ?_ GE115.out) | exact HB.out)) hb)
    clear HO_8
    clear HO_9
    clear BK115
    clear HB
    have HO_8 := n0_
    have HO_9 := n1_
    have BK115 := n2_
    have HB := n3_
    clear n0_ n1_ n2_ n3_
    (try clear hb)
    refine hK.out _ _ ⟨(ab_ BK115.out 0).trans rfl, (ab_ BK115.out 1).trans rfl, (ab_ BK115.out 2).trans rfl, (ab_ BK115.out 3).trans rfl, HS4_⟩ (fun hHeld => ?_)
    clear hK K
    refine norm_ (a' := ?_) ?_ ?_
    rotate_left
    ·show Act.put _ (some 41) _ = _
     simp only [Act.put, lsa_, ls0_, ls1_, i64_w, i32_w]
     rfl
    refine pure_ (i := 7) (N := some 42) (v := ?_) (a' := ?_) #[t_,t_,t_,t_,t_,t_,t_,t_] rfl rfl (aF_ HT_.out (by kernel_rfl)) (fun _ _ _ h => h) (Or.inl ⟨by rfl, ?_⟩) ?_ ?_
    rotate_left
    ·intro w'
     go_simp
     with_reducible rfl
    rotate_left
    ·simp only [Act.put, lsa_, ls0_, ls1_, i64_w, i32_w]
     rfl
    refine done_ (dA_ HT_.out (by kernel_rfl)) ?_
    go_upto_if 42 with (fail)
    have H := HC17.out
    clear HC17
    by_cases c25 : (t111.toList == t117.toList && ((t112.toList == t118.toList && (t113 == t119 && (t114 == t120))))) = true
    rotate_left
    ·rw [if_neg c25] at H
     have c25b0 : (t111.toList == t117.toList && ((t112.toList == t118.toList && (t113 == t119 && (t114 == t120))))) = false := by simpa using c25
     (try (have c25b1 : decide (t111.toList = t117.toList && ((t112.toList == t118.toList && (t113 == t119 && (t114 == t120))))) = false := by simpa using c25))
     (try (have c25b2 : (t111.toList == t117.toList && ((t112.toList == t118.toList && (t113 == t119 && (t114 == t120))))) = false := by simpa using c25))
     (try (have c25b3 : ¬ (t111.toList = t117.toList && ((t112.toList == t118.toList && (t113 == t119 && (t114 == t120))))) := by simpa using c25))
     clear c25
     (first | rw [c25b0] | (simp only [i64_w, i32_w]; rw [c25b0]) | (simp only [c25b1, Bool.not_true, Bool.not_false]) | (simp only [c25b0, Bool.not_true, Bool.not_false]) | skip)
     by_cases c34 : t111.toList = ([] : List UInt8)
     rotate_left
     ·rw [if_neg c34] at H
      have c34b0 : (t111.toList == ([] : List UInt8)) = false := beq_eq_false_iff_ne.mpr c34
      have c34b1 : (t111.toList != ([] : List UInt8)) = true := bne_iff_ne.mpr c34
      (try (have c34b8 := c34b0; simp only [List.beq_nil_eq] at c34b8))
      by_cases c36 : x9_1.length < 2932031007402
      rotate_left
      ·rw [if_neg c36] at H
       exact absurd H (by simp)
      rw [if_pos c36] at H
      have LMc36 := Aside0.mk c36
      clear c36
      obtain ⟨y129, hy129⟩ : ∃ y_ : List (S63), y_ = (x9_1 ++ [(⟨t111, (⟨t112, t113, t114⟩ : S61)⟩ : S63)]) := ⟨_, rfl⟩
      replace H : (bc_.l0 k1 l0 l1 l2 t104 y129 (wrap64 (x10_1 + 1))) = some (r1, r2) := by first | (rw [hy129]; with_reducible exact H) | (have H2_ := (Option.bind_some _ _).symm.trans H; rw [hy129]; with_reducible exact H2_) | (have H2_ := (Option.bind_some _ _).symm.trans H; with_reducible exact H2_) | with_reducible exact H | (rw [hy129]; exact H) | exact H
      have Ny129 := Aside0.mk hy129
      clear hy129
      have H' := Aside0.mk H
      clear H
      have hcz37_0 : w24.cell? ⟨gb115, 0, none⟩ = some (.string t111) := (ab_ BK115.out 0).trans rfl
      have hcz37_1 : w24.cell? ⟨gb115, 1, none⟩ = some (.string t112) := (ab_ BK115.out 1).trans rfl
      have hcz37_2 : w24.cell? ⟨gb115, 2, none⟩ = some (.int .i64 t113) := (ab_ BK115.out 2).trans rfl
      have hcz37_3 : w24.cell? ⟨gb115, 3, none⟩ = some (.int .i64 t114) := (ab_ BK115.out 3).trans rfl
      have hfz37_0 := aa_ BK115.out 0
      have hfz37_1 := aa_ BK115.out 1
      have hfz37_2 := aa_ BK115.out 2
      have hfz37_3 := aa_ BK115.out 3
      go_wp2_with (first | ((with_reducible refine bn_ (b := .append) (xs := #[.tmp 52, .tmp 54]) rfl ?_); at_builtin; refine Kd.ck_ k63 (w0 := w) w.heap.size rfl (.tmp 52) (.tmp 54) 27 63 (.agg #[(.string ⟨#[]⟩), (.string ⟨#[]⟩), (.int .i64 0), (.int .i64 0)]) 48 rfl Try.underlying27 dk_ rfl (by decide) (by omega) u9 x9_1 (⟨t111, (⟨t112, t113, t114⟩ : S61)⟩ : S63) [.string t111, .string t112, .int .i64 t113, .int .i64 t114] (fun k_ => k_ ≠ gb115) (fun _ => False) rfl rfl ?aP (fun _ hk => hk.elim) ?aF ?aO ?aB ?aS ?aL ?_; (case aP => exact cE_ _ _ _ (⟨t111, (⟨t112, t113, t114⟩ : S61)⟩ : S63)); (case aB => exact (by repeat (first | (with_reducible first | exact HB.out | apply bA_ | apply bN_ | apply bD_ | refine ac_ ?_ GE115.out) | exact HB.out))); (case aF => exact (fun k_ hk => Kd.df_ (g := gb115) (o := .cells #[.string t111, .string t112, .int .i64 t113, .int .i64 t114] 63 (0, 0)) (kz BK115.out) k_ hk)); (case aO => exact (rz HO_9.out)); (case aS => exact (ae_ (by repeat (first | (with_reducible first | exact HB.out | apply bA_ | apply bN_ | apply bD_ | refine ac_ ?_ GE115.out) | exact HB.out)))); (case aL => have := LMc36.out; omega); intro v130 w38 ho hb hg hat; rw [← Ny129.out] at ho; replace HO_8 := Aside0.mk (Kd.R_over' (rz HO_8.out) (Kd.R_typed (rz HO_9.out)) (by decide) hg); replace BK115 := Aside0.mk (bW_ (g := gb115) (o := .cells #[.string t111, .string t112, .int .i64 t113, .int .i64 t114] 63 (0, 0)) (kz BK115.out) hg (Kd.R_away HO_9.out (fun _ hk => hk))); replace HB := Aside0.mk (hb); have HO131 := Aside0.mk (ho); clear HO_9; clear ho hb hg hat))
      go_roundg k1
      case measure => have := HK1.out; omega
      case rel => exact ⟨(y129), (wrap64 (x10_1 + 1)), (by first | rfl | (simp; done) | (simp [*]; done)), H', ⟨by have := HK1.out; omega⟩, ⟨rz HO_8.out⟩, ⟨rz (Kd.aK_ HO131.out (fun _ hk => trivial))⟩, ⟨by repeat (first | (with_reducible first | exact HB.out | apply bA_ | apply bN_ | apply bD_ | refine ac_ ?_ GE115.out) | exact HB.out)⟩⟩
     rw [if_pos c34] at H
     have c34b0 : (t111.toList == ([] : List UInt8)) = true := beq_iff_eq.mpr c34
     have c34b1 : (t111.toList != ([] : List UInt8)) = false := bne_eq_false_iff_eq.mpr c34
     (try (have c34b8 := c34b0; simp only [List.beq_nil_eq] at c34b8))
     clear c34
     have H' := Aside0.mk H
     clear H
     have hcz35_0 : w24.cell? ⟨gb115, 0, none⟩ = some (.string t111) := (ab_ BK115.out 0).trans rfl
     have hcz35_1 : w24.cell? ⟨gb115, 1, none⟩ = some (.string t112) := (ab_ BK115.out 1).trans rfl
     have hcz35_2 : w24.cell? ⟨gb115, 2, none⟩ = some (.int .i64 t113) := (ab_ BK115.out 2).trans rfl
     have hcz35_3 : w24.cell? ⟨gb115, 3, none⟩ = some (.int .i64 t114) := (ab_ BK115.out 3).trans rfl
     have hfz35_0 := aa_ BK115.out 0
     have hfz35_1 := aa_ BK115.out 1
     have hfz35_2 := aa_ BK115.out 2
     have hfz35_3 := aa_ BK115.out 3
     go_wp2
     go_roundg k1
     case measure => have := HK1.out; omega
     case rel => exact ⟨(x9_1), (wrap64 (x10_1 + 1)), (by first | rfl | (simp; done) | (simp [*]; done)), H', ⟨by have := HK1.out; omega⟩, ⟨rz HO_8.out⟩, ⟨rz (Kd.aK_ HO_9.out (fun _ hk => trivial))⟩, ⟨by repeat (first | (with_reducible first | exact HB.out | apply bA_ | apply bN_ | apply bD_ | refine ac_ ?_ GE115.out) | exact HB.out)⟩⟩
    rw [if_pos c25] at H
    have c25b0 : (t111.toList == t117.toList && ((t112.toList == t118.toList && (t113 == t119 && (t114 == t120))))) = true := c25
    (try (have c25b1 : decide (t111.toList = t117.toList && ((t112.toList == t118.toList && (t113 == t119 && (t114 == t120))))) = true := by simpa using c25))
    (try (have c25b2 : (t111.toList == t117.toList && ((t112.toList == t118.toList && (t113 == t119 && (t114 == t120))))) = true := by simpa using c25))
    clear c25
    (first | rw [c25b0] | (simp only [i64_w, i32_w]; rw [c25b0]) | (simp only [c25b1, Bool.not_true, Bool.not_false]) | (simp only [c25b0, Bool.not_true, Bool.not_false]) | skip)
    replace H := Option.bind_eq_some_iff.mp H
    obtain ⟨⟨t122, t123, t124, t125⟩, A260, H⟩ := H
    (try dsimp only at H)
    have A26 := Aside0.mk A260
    clear A260
    have HC27 := Aside0.mk H
    clear H
    have p121 : 0 ≤ (x10_1 : Int) := of_decide_eq_true (by assumption)
    have q121 : x10_1 < (t104.length : Int) := of_decide_eq_true (by assumption)
    obtain ⟨ad121, e121, hx121_0⟩ := Kd.co_ (Kd.bf_ HO_8.out).2.2 x10_1 p121 q121
    obtain rfl : ad110 = ad121 := (by injection e121)
    replace p121 := eq_true p121
    replace q121 := eq_true q121
    go_upto_if 51 with (first | ((with_reducible refine am_ (f := 67) rfl ?_); refine aX_ (some 48) rfl rfl Try.func67 (by kernel_rfl) rfl #[.slice A2 l2.length c2, .string (rdOf ByteArray.empty t104 x10_1)] rfl (by first | rfl | (simp only [List.map_toArray, List.map_cons, List.map_nil]; first | done | rfl)) ?_; (with_reducible refine (bQ_.calls k1 _ _ l2 (rdOf ByteArray.empty t104 x10_1) t122 t123 t124 t125 _ ?side1 ?side2 A26.out).mono ?_); (case side1 => repeat (first | exact (Kd.bE_ HR2.out (by repeat (first | (with_reducible first | exact HB.out | apply bA_ | apply bN_ | apply bD_ | refine ac_ ?_ GE115.out) | exact HB.out))) | (with_reducible first | refine Kd.C_alloc ?_ _ | refine Kd.C_drewN ?_ _ | refine Kd.C_drew ?_))); (case side2 => exact HC2.out); rintro e w28 ⟨rfl, hb⟩; refine ⟨_, rfl, ?_⟩; replace HO_8 := Aside0.mk (Kd.aH_ (rz HO_8.out) hb); replace HO_9 := Aside0.mk (Kd.aH_ (rz HO_9.out) hb); replace BK115 := Aside0.mk (aG_ (g := gb115) (o := .cells #[.string t111, .string t112, .int .i64 t113, .int .i64 t114] 63 (0, 0)) (kz BK115.out) hb); replace HB := Aside0.mk (ag_ (by repeat (first | (with_reducible first | exact HB.out | apply bA_ | apply bN_ | apply bD_ | refine ac_ ?_ GE115.out) | exact HB.out)) hb); (try clear hb); have hcz29_0 : w28.cell? ⟨gb115, 0, none⟩ = some (.string t111) := (ab_ BK115.out 0).trans rfl; have hcz29_1 : w28.cell? ⟨gb115, 1, none⟩ = some (.string t112) := (ab_ BK115.out 1).trans rfl; have hcz29_2 : w28.cell? ⟨gb115, 2, none⟩ = some (.int .i64 t113) := (ab_ BK115.out 2).trans rfl; have hcz29_3 : w28.cell? ⟨gb115, 3, none⟩ = some (.int .i64 t114) := (ab_ BK115.out 3).trans rfl; have hfz29_0 := aa_ BK115.out 0; have hfz29_1 := aa_ BK115.out 1; have hfz29_2 := aa_ BK115.out 2; have hfz29_3 := aa_ BK115.out 3))
    (try simp only [Act.put, lsa_, ls0_, ls1_])
    have H := HC27.out
    clear HC27
    by_cases c30 : t122.toList = ([] : List UInt8)
    rotate_left
    ·rw [if_neg c30] at H
     have c30b0 : (t122.toList == ([] : List UInt8)) = false := beq_eq_false_iff_ne.mpr c30
     have c30b1 : (t122.toList != ([] : List UInt8)) = true := bne_iff_ne.mpr c30
     (try (have c30b8 := c30b0; simp only [List.beq_nil_eq] at c30b8))
     (first | rw [c30b0] | (simp only [i64_w, i32_w]; rw [c30b0]) | (simp only [c30b1, Bool.not_true, Bool.not_false]) | (simp only [c30b0, Bool.not_true, Bool.not_false]) | rw [c30b8] | (simp only [c30b8, Bool.not_true, Bool.not_false]) | skip)
     by_cases c31 : x9_1.length < 2932031007402
     rotate_left
     ·rw [if_neg c31] at H
      exact absurd H (by simp)
     rw [if_pos c31] at H
     have LMc31 := Aside0.mk c31
     clear c31
     obtain ⟨y126, hy126⟩ : ∃ y_ : List (S63), y_ = (x9_1 ++ [(⟨t122, (⟨t123, t124, t125⟩ : S61)⟩ : S63)]) := ⟨_, rfl⟩
     replace H : (bc_.l0 k1 l0 l1 l2 t104 y126 (wrap64 (x10_1 + 1))) = some (r1, r2) := by first | (rw [hy126]; with_reducible exact H) | (have H2_ := (Option.bind_some _ _).symm.trans H; rw [hy126]; with_reducible exact H2_) | (have H2_ := (Option.bind_some _ _).symm.trans H; with_reducible exact H2_) | with_reducible exact H | (rw [hy126]; exact H) | exact H
     have Ny126 := Aside0.mk hy126
     clear hy126
     have H' := Aside0.mk H
     clear H
     have hcz32_0 : w28.cell? ⟨gb115, 0, none⟩ = some (.string t111) := (ab_ BK115.out 0).trans rfl
     have hcz32_1 : w28.cell? ⟨gb115, 1, none⟩ = some (.string t112) := (ab_ BK115.out 1).trans rfl
     have hcz32_2 : w28.cell? ⟨gb115, 2, none⟩ = some (.int .i64 t113) := (ab_ BK115.out 2).trans rfl
     have hcz32_3 : w28.cell? ⟨gb115, 3, none⟩ = some (.int .i64 t114) := (ab_ BK115.out 3).trans rfl
     have hfz32_0 := aa_ BK115.out 0
     have hfz32_1 := aa_ BK115.out 1
     have hfz32_2 := aa_ BK115.out 2
     have hfz32_3 := aa_ BK115.out 3
     go_wp2_with (first | ((with_reducible refine bn_ (b := .append) (xs := #[.tmp 52, .tmp 54]) rfl ?_); at_builtin; refine Kd.ck_ k63 (w0 := w) w.heap.size rfl (.tmp 52) (.tmp 54) 27 63 (.agg #[(.string ⟨#[]⟩), (.string ⟨#[]⟩), (.int .i64 0), (.int .i64 0)]) 48 rfl Try.underlying27 dk_ rfl (by decide) (by omega) u9 x9_1 (⟨t122, (⟨t123, t124, t125⟩ : S61)⟩ : S63) [.string t122, .string t123, .int .i64 t124, .int .i64 t125] (fun k_ => k_ ≠ gb115) (fun _ => False) rfl (by first | (go_simp; done) | (go_simp; rfl)) ?aP (fun _ hk => hk.elim) ?aF ?aO ?aB ?aS ?aL ?_; (case aP => exact cE_ _ _ _ (⟨t122, (⟨t123, t124, t125⟩ : S61)⟩ : S63)); (case aB => exact (by repeat (first | (with_reducible first | exact HB.out | apply bA_ | apply bN_ | apply bD_ | refine ac_ ?_ GE115.out) | exact HB.out))); (case aF => exact (fun k_ hk => Kd.df_ (g := gb115) (o := .cells #[.string t122, .string t123, .int .i64 t124, .int .i64 t125] 63 (0, 0)) (by (with_reducible repeat (first | refine ai_ ?_ _ | refine aj_ ?_ | refine ah_ ?_ _)); refine aB_ (cs := #[.string t122, .string t123, .int .i64 t124, .int .i64 t114]) ?_ 3 _ rfl; (with_reducible repeat (first | refine ai_ ?_ _ | refine aj_ ?_ | refine ah_ ?_ _)); refine aB_ (cs := #[.string t122, .string t123, .int .i64 t113, .int .i64 t114]) ?_ 2 _ rfl; (with_reducible repeat (first | refine ai_ ?_ _ | refine aj_ ?_ | refine ah_ ?_ _)); refine aB_ (cs := #[.string t122, .string t112, .int .i64 t113, .int .i64 t114]) ?_ 1 _ rfl; (with_reducible repeat (first | refine ai_ ?_ _ | refine aj_ ?_ | refine ah_ ?_ _)); refine aB_ (cs := #[.string t111, .string t112, .int .i64 t113, .int .i64 t114]) ?_ 0 _ rfl; (with_reducible repeat (first | refine ai_ ?_ _ | refine aj_ ?_ | refine ah_ ?_ _)); exact BK115.out) k_ hk)); (case aO => exact (rz (Kd.aK_ (Kd.R_far (p := ⟨gb115, 3, none⟩) (Kd.R_far (p := ⟨gb115, 2, none⟩) (Kd.R_far (p := ⟨gb115, 1, none⟩) (Kd.R_far (p := ⟨gb115, 0, none⟩) (Kd.aK_ HO_9.out (fun k_ hk => (⟨hk, hk⟩ : _ ∧ k_ ≠ gb115))) (fun _ hk => hk.2) (.string t122)) (fun _ hk => hk.2) (.string t123)) (fun _ hk => hk.2) (.int .i64 t124)) (fun _ hk => hk.2) (.int .i64 t125)) (fun _ hk => hk.1)))); (case aS => exact (ae_ (by repeat (first | (with_reducible first | exact HB.out | apply bA_ | apply bN_ | apply bD_ | refine ac_ ?_ GE115.out) | exact HB.out)))); (case aL => have := LMc31.out; omega); intro v127 w33 ho hb hg hat; rw [← Ny126.out] at ho; replace HO_8 := Aside0.mk (Kd.R_over' (rz (Kd.aK_ (Kd.R_far (p := ⟨gb115, 3, none⟩) (Kd.R_far (p := ⟨gb115, 2, none⟩) (Kd.R_far (p := ⟨gb115, 1, none⟩) (Kd.R_far (p := ⟨gb115, 0, none⟩) (Kd.bp_ HO_8.out BK115.out (by decide)) (fun _ hk => hk.2) (.string t122)) (fun _ hk => hk.2) (.string t123)) (fun _ hk => hk.2) (.int .i64 t124)) (fun _ hk => hk.2) (.int .i64 t125)) (fun _ h_ => h_.1))) (Kd.R_typed (rz (Kd.aK_ (Kd.R_far (p := ⟨gb115, 3, none⟩) (Kd.R_far (p := ⟨gb115, 2, none⟩) (Kd.R_far (p := ⟨gb115, 1, none⟩) (Kd.R_far (p := ⟨gb115, 0, none⟩) (Kd.aK_ HO_9.out (fun k_ hk => (⟨hk, hk⟩ : _ ∧ k_ ≠ gb115))) (fun _ hk => hk.2) (.string t122)) (fun _ hk => hk.2) (.string t123)) (fun _ hk => hk.2) (.int .i64 t124)) (fun _ hk => hk.2) (.int .i64 t125)) (fun _ h_ => h_.1)))) (by decide) hg); replace BK115 := Aside0.mk (bW_ (g := gb115) (o := .cells #[.string t122, .string t123, .int .i64 t124, .int .i64 t125] 63 (0, 0)) (by (with_reducible repeat (first | refine ai_ ?_ _ | refine aj_ ?_ | refine ah_ ?_ _)); refine aB_ (cs := #[.string t122, .string t123, .int .i64 t124, .int .i64 t114]) ?_ 3 _ rfl; (with_reducible repeat (first | refine ai_ ?_ _ | refine aj_ ?_ | refine ah_ ?_ _)); refine aB_ (cs := #[.string t122, .string t123, .int .i64 t113, .int .i64 t114]) ?_ 2 _ rfl; (with_reducible repeat (first | refine ai_ ?_ _ | refine aj_ ?_ | refine ah_ ?_ _)); refine aB_ (cs := #[.string t122, .string t112, .int .i64 t113, .int .i64 t114]) ?_ 1 _ rfl; (with_reducible repeat (first | refine ai_ ?_ _ | refine aj_ ?_ | refine ah_ ?_ _)); refine aB_ (cs := #[.string t111, .string t112, .int .i64 t113, .int .i64 t114]) ?_ 0 _ rfl; (with_reducible repeat (first | refine ai_ ?_ _ | refine aj_ ?_ | refine ah_ ?_ _)); exact BK115.out) hg (Kd.R_away HO_9.out (fun _ hk => hk))); replace HB := Aside0.mk (hb); have HO128 := Aside0.mk (ho); clear HO_9; clear ho hb hg hat))
     go_roundg k1
     case measure => have := HK1.out; omega
     case rel => exact ⟨(y126), (wrap64 (x10_1 + 1)), (by first | rfl | (simp; done) | (simp [*]; done)), H', ⟨by have := HK1.out; omega⟩, ⟨rz HO_8.out⟩, ⟨rz (Kd.aK_ HO128.out (fun _ hk => trivial))⟩, ⟨by repeat (first | (with_reducible first | exact HB.out | apply bA_ | apply bN_ | apply bD_ | refine ac_ ?_ GE115.out) | exact HB.out)⟩⟩
    rw [if_pos c30] at H
    have c30b0 : (t122.toList == ([] : List UInt8)) = true := beq_iff_eq.mpr c30
    have c30b1 : (t122.toList != ([] : List UInt8)) = false := bne_eq_false_iff_eq.mpr c30
    (try (have c30b8 := c30b0; simp only [List.beq_nil_eq] at c30b8))
    clear c30
    (first | rw [c30b0] | (simp only [i64_w, i32_w]; rw [c30b0]) | (simp only [c30b1, Bool.not_true, Bool.not_false]) | (simp only [c30b0, Bool.not_true, Bool.not_false]) | rw [c30b8] | (simp only [c30b8, Bool.not_true, Bool.not_false]) | skip)
    have H' := Aside0.mk H
    clear H
    go_wp2
    go_roundg k1
    case measure => have := HK1.out; omega
    case rel => exact ⟨(x9_1), (wrap64 (x10_1 + 1)), (by first | rfl | (simp; done) | (simp [*]; done)), H', ⟨by have := HK1.out; omega⟩, ⟨rz (Kd.aK_ (Kd.R_far (p := ⟨gb115, 3, none⟩) (Kd.R_far (p := ⟨gb115, 2, none⟩) (Kd.R_far (p := ⟨gb115, 1, none⟩) (Kd.R_far (p := ⟨gb115, 0, none⟩) (Kd.bp_ HO_8.out BK115.out (by decide)) (fun _ hk => hk.2) (.string t122)) (fun _ hk => hk.2) (.string t123)) (fun _ hk => hk.2) (.int .i64 t124)) (fun _ hk => hk.2) (.int .i64 t125)) (fun _ hk => trivial))⟩, ⟨rz (Kd.aK_ (Kd.R_far (p := ⟨gb115, 3, none⟩) (Kd.R_far (p := ⟨gb115, 2, none⟩) (Kd.R_far (p := ⟨gb115, 1, none⟩) (Kd.R_far (p := ⟨gb115, 0, none⟩) (Kd.aK_ HO_9.out (fun k_ hk => (⟨hk, hk⟩ : _ ∧ k_ ≠ gb115))) (fun _ hk => hk.2) (.string t122)) (fun _ hk => hk.2) (.string t123)) (fun _ hk => hk.2) (.int .i64 t124)) (fun _ hk => hk.2) (.int .i64 t125)) (fun _ hk => trivial))⟩, ⟨by repeat (first | (with_reducible first | exact HB.out | apply bA_ | apply bN_ | apply bD_ | refine ac_ ?_ GE115.out) | exact HB.out)⟩⟩
 rw [if_pos c8] at H
 have c8b0 : decide (0 < (t101.length : Int)) = true := decide_eq_true c8
 have c8b1 : decide (0 < t101.length) = true := decide_eq_true (by omega)
 clear c8
 (first | rw [c8b0] | (simp only [i64_w, i32_w]; rw [c8b0]) | (simp only [c8b1, Bool.not_true, Bool.not_false]) | (simp only [c8b0, Bool.not_true, Bool.not_false]) | skip)
 simp only [Option.some.injEq, Prod.mk.injEq] at H
 obtain ⟨rfl, rfl⟩ := H
 go_wp2
 go_ret2
 exact ⟨_, by first | rfl | (simp [*, an_, ao_] <;> rfl), by first | exact Kd.R_nil _ _ _ _ _ | exact Kd.N_nil _ _ _ _ _ | exact Kd.V_nil _ _ _ _ _ | exact Kd.Q_nil _ _ _ _ _ | exact Kd.S_nil _ _ _ _ _, bz HB.out⟩
end Go.Proofs.Ytiheginanghhjaa.Q
namespace Go.Proofs.Ytiheginanghhjaa.Q
open Go.RowKit Go.Proofs.YtiheginanghhjaaW.PrintWords Go.Proofs.YtiheginanghhjaaW.PrintLast Go.Proofs.YtiheginanghhjaaW.PrintMore
attribute [local go_sem] aN_ aL_ bi_ bh_ aA_ az_ aO_ aM_
def cw_.f (a0 : Int) : Option (Bool) := if a0 ≥ 97 then (some (decide (a0 ≤ 122))) else (some false)
set_option maxHeartbeats 8000000 in
set_option maxRecDepth 100000 in
theorem cw_.calls (a0 : Int) (r : Bool) (w : World) (h : cw_.f a0 = some r) :
  Calls Try.prog 106 #[.int .u8 a0] w fun e w' => e = .returned (.bool r) ∧ av_ w w' := by
 have H : (if a0 ≥ 97 then (some (decide (a0 ≤ 122))) else (some false)) = some r := h
 clear h
 by_cases c2 : a0 ≥ 97
 rotate_left
 ·rw [if_neg c2] at H
  have c2b0 : decide (97 ≤ a0) = false := decide_eq_false c2
  clear c2
  obtain rfl := Option.some.inj H
  go_enter Try.func106, Try.ntmps106
  go_wp2
  go_ret
  exact ⟨by first | rfl | (simp; done) | (simp [*]; done), by repeat (first | exact av_.refl _ | apply av_.step)⟩
 rw [if_pos c2] at H
 have c2b0 : decide (97 ≤ a0) = true := decide_eq_true c2
 clear c2
 obtain rfl := Option.some.inj H
 go_enter Try.func106, Try.ntmps106
 go_wp2
 go_ret
 exact ⟨by first | rfl | (simp; done) | (simp [*]; done), by repeat (first | exact av_.refl _ | apply av_.step)⟩
def db_.f (a0 : Int) : Option (Bool) := if a0 ≥ 48 then (some (decide (a0 ≤ 57))) else (some false)
set_option maxHeartbeats 8000000 in
set_option maxRecDepth 100000 in
theorem db_.calls (a0 : Int) (r : Bool) (w : World) (h : db_.f a0 = some r) :
  Calls Try.prog 107 #[.int .u8 a0] w fun e w' => e = .returned (.bool r) ∧ av_ w w' := by
 have H : (if a0 ≥ 48 then (some (decide (a0 ≤ 57))) else (some false)) = some r := h
 clear h
 by_cases c2 : a0 ≥ 48
 rotate_left
 ·rw [if_neg c2] at H
  have c2b0 : decide (48 ≤ a0) = false := decide_eq_false c2
  clear c2
  obtain rfl := Option.some.inj H
  go_enter Try.func107, Try.ntmps107
  go_wp2
  go_ret
  exact ⟨by first | rfl | (simp; done) | (simp [*]; done), by repeat (first | exact av_.refl _ | apply av_.step)⟩
 rw [if_pos c2] at H
 have c2b0 : decide (48 ≤ a0) = true := decide_eq_true c2
 clear c2
 obtain rfl := Option.some.inj H
 go_enter Try.func107, Try.ntmps107
 go_wp2
 go_ret
 exact ⟨by first | rfl | (simp; done) | (simp [*]; done), by repeat (first | exact av_.refl _ | apply av_.step)⟩
mutual
def ba_.j0 : Nat → ByteArray → Bool → Option (Bool)
 | 0, _, _ => none
 | k + 1, x0, x16 => if x16 = true then (some false) else (ba_.l0 k x0 0)
def ba_.l0 : Nat → ByteArray → Int → Option (Bool)
 | 0, _, _ => none
 | k + 1, x0, x3 => if x3 < (x0.size : Int) then (if 0 ≤ x3 then ((cw_.f (bt x0 x3)).bind fun t102 => (if t102 = true then (ba_.l0 k x0 (wrap64 (x3 + 1))) else ((db_.f (bt x0 x3)).bind fun t103 => (if t103 = true then (ba_.l0 k x0 (wrap64 (x3 + 1))) else (some false))))) else (none)) else (some true)
end
def ba_.f (k : Nat) (a0 : ByteArray) : Option (Bool) := if a0.toList = ([] : List UInt8) then (ba_.j0 k a0 true) else (if (a0.size : Int) > 10 then (ba_.j0 k a0 true) else (if 0 < (a0.size : Int) then ((cw_.f (bt a0 0)).bind fun t101 => (ba_.j0 k a0 (!t101))) else (none)))
set_option maxHeartbeats 8000000 in
set_option maxRecDepth 100000 in
theorem ba_.calls (k : Nat) (a0 : ByteArray) (r : Bool) (w : World) (h : ba_.f k a0 = some r) :
  Calls Try.prog 90 #[.string a0] w fun e w' => e = .returned (.bool r) ∧ av_ w w' := by
 have H : (if a0.toList = ([] : List UInt8) then (ba_.j0 k a0 true) else (if (a0.size : Int) > 10 then (ba_.j0 k a0 true) else (if 0 < (a0.size : Int) then ((cw_.f (bt a0 0)).bind fun t101 => (ba_.j0 k a0 (!t101))) else (none)))) = some r := h
 clear h
 have HC2 := Aside0.mk H
 clear H
 go_enter Try.func90, Try.ntmps90
 go_upto_region 1 with (fail)
 go_cut [16] (fun v16 wc => ∃ (kq : Nat) (x16_1 : Bool), v16 = .bool x16_1 ∧ Aside0 (ba_.j0 kq a0 x16_1 = some r) ∧ Aside0 (kq ≤ k) ∧ av_ w wc)
 case first =>
  have H := HC2.out
  clear HC2
  by_cases c3 : a0.toList = ([] : List UInt8)
  rotate_left
  ·rw [if_neg c3] at H
   have c3b0 : (a0.toList == ([] : List UInt8)) = false := beq_eq_false_iff_ne.mpr c3
   have c3b1 : (a0.toList != ([] : List UInt8)) = true := bne_iff_ne.mpr c3
   (try (have c3b8 := c3b0; simp only [List.beq_nil_eq] at c3b8))
   (first | rw [c3b0] | (simp only [i64_w, i32_w]; rw [c3b0]) | (simp only [c3b1, Bool.not_true, Bool.not_false]) | (simp only [c3b0, Bool.not_true, Bool.not_false]) | rw [c3b8] | (simp only [c3b8, Bool.not_true, Bool.not_false]) | skip)
   by_cases c4 : (a0.size : Int) > 10
   rotate_left
   ·rw [if_neg c4] at H
    have c4b0 : decide (10 < (a0.size : Int)) = false := decide_eq_false c4
    have c4b1 : decide (10 < a0.size) = false := decide_eq_false (by omega)
    clear c4
    by_cases c5 : 0 < (a0.size : Int)
    rotate_left
    ·rw [if_neg c5] at H
     exact absurd H (by simp)
    rw [if_pos c5] at H
    have c5b0 : decide (0 < (a0.size : Int)) = true := decide_eq_true c5
    have c5b1 : decide (0 < a0.size) = true := decide_eq_true (by omega)
    clear c5
    replace H := Option.bind_eq_some_iff.mp H
    obtain ⟨t101, A70, H⟩ := H
    (try dsimp only at H)
    have A7 := Aside0.mk A70
    clear A70
    have H' := Aside0.mk H
    clear H
    have p6 : 0 ≤ (0 : Int) := (by omega)
    have q6 : 0 < a0.size := (by have : (0 : Int) < (a0.size : Int) := of_decide_eq_true (by assumption); omega)
    have hx6 : ∀ h : 0 < a0.size, ((a0[0]'h).toNat : Int) = bt a0 0 := bt_at a0 0
    clear p6
    have qi6 : (0 < (a0.size : Int)) = True := eq_true (of_decide_eq_true (by assumption))
    replace q6 := eq_true q6
    go_wp2_with (first | (go_at_call 106; (with_reducible refine (cw_.calls (bt a0 0) t101 _ A7.out).mono ?_); rintro e w' ⟨rfl, ⟨nd, rfl⟩⟩))
    go_meet
    case rel => exact ⟨_, (!t101), (by first | rfl | (simp; done) | (simp [*]; done)), H', ⟨by first | omega | exact Nat.le_refl _⟩, by repeat (first | exact av_.refl _ | apply av_.step)⟩
   rw [if_pos c4] at H
   have c4b0 : decide (10 < (a0.size : Int)) = true := decide_eq_true c4
   have c4b1 : decide (10 < a0.size) = true := decide_eq_true (by omega)
   clear c4
   have H' := Aside0.mk H
   clear H
   go_wp2
   go_meet
   case rel => exact ⟨_, (true), (by first | rfl | (simp; done) | (simp [*]; done)), H', ⟨by first | omega | exact Nat.le_refl _⟩, by repeat (first | exact av_.refl _ | apply av_.step)⟩
  rw [if_pos c3] at H
  have c3b0 : (a0.toList == ([] : List UInt8)) = true := beq_iff_eq.mpr c3
  have c3b1 : (a0.toList != ([] : List UInt8)) = false := bne_eq_false_iff_eq.mpr c3
  (try (have c3b8 := c3b0; simp only [List.beq_nil_eq] at c3b8))
  clear c3
  (first | rw [c3b0] | (simp only [i64_w, i32_w]; rw [c3b0]) | (simp only [c3b1, Bool.not_true, Bool.not_false]) | (simp only [c3b0, Bool.not_true, Bool.not_false]) | rw [c3b8] | (simp only [c3b8, Bool.not_true, Bool.not_false]) | skip)
  have H' := Aside0.mk H
  clear H
  go_wp2
  go_meet
  case rel => exact ⟨_, (true), (by first | rfl | (simp; done) | (simp [*]; done)), H', ⟨by first | omega | exact Nat.le_refl _⟩, by repeat (first | exact av_.refl _ | apply av_.step)⟩
 case rest =>
  clear HC2
  obtain ⟨kq, x16_1, rfl, HA, HJ1, ⟨mc1, rfl⟩⟩ := hcut
  cases kq with
  | zero => exact absurd HA.out (by simp [ba_.j0])
  | succ kj1 =>
   have H := HA.out
   clear HA
   simp only [ba_.j0] at H
   by_cases c8 : x16_1 = true
   rotate_left
   ·replace c8 := Bool.eq_false_iff.mpr c8
    subst c8
    have H1 : (ba_.l0 kj1 a0 0) = some r := by rw [if_neg (show ¬ (false = true) by decide)] at H; exact H
    clear H
    have H := H1
    clear H1
    have H' := Aside0.mk H
    clear H
    go_wp2
    (try simp only [Act.put, lsa_, ls0_, ls1_])
    go_loopg [3] kj1 (fun kq v3 w' => ∃ (x3_2 : Int), v3 = .int .i64 x3_2 ∧ Aside0 (ba_.l0 kq a0 x3_2 = some r) ∧ Aside0 (kq ≤ kj1) ∧ av_ w w')
    case atStart => exact ⟨(0), (by first | rfl | (simp; done) | (simp [*]; done)), H', ⟨Nat.le_refl _⟩, by repeat (first | exact av_.refl _ | apply av_.step)⟩
    case round =>
     clear H'
     obtain ⟨x3_2, rfl, HA, HK2, ⟨m2, rfl⟩⟩ := hrel
     cases gk with
     | zero => exact absurd HA.out (by simp [ba_.l0])
     | succ k2 =>
      have H := HA.out
      clear HA
      simp only [ba_.l0] at H
      by_cases c9 : x3_2 < (a0.size : Int)
      rotate_left
      ·rw [if_neg c9] at H
       have c9b0 : decide (x3_2 < (a0.size : Int)) = false := decide_eq_false c9
       clear c9
       obtain rfl := Option.some.inj H
       go_wp2
       go_ret
       exact ⟨by first | rfl | (simp; done) | (simp [*]; done), by repeat (first | exact av_.refl _ | apply av_.step)⟩
      rw [if_pos c9] at H
      have c9b0 : decide (x3_2 < (a0.size : Int)) = true := decide_eq_true c9
      clear c9
      by_cases c10 : 0 ≤ x3_2
      rotate_left
      ·rw [if_neg c10] at H
       exact absurd H (by simp)
      rw [if_pos c10] at H
      have c10b0 : decide (0 ≤ x3_2) = true := decide_eq_true c10
      clear c10
      replace H := Option.bind_eq_some_iff.mp H
      obtain ⟨t102, A120, H⟩ := H
      (try dsimp only at H)
      have A12 := Aside0.mk A120
      clear A120
      by_cases c13 : t102 = true
      rotate_left
      ·replace c13 := Bool.eq_false_iff.mpr c13
       subst c13
       have H1 : ((db_.f (bt a0 x3_2)).bind fun t103 => (if t103 = true then (ba_.l0 k2 a0 (wrap64 (x3_2 + 1))) else (some false))) = some r := by rw [if_neg (show ¬ (false = true) by decide)] at H; exact H
       clear H
       have H := H1
       clear H1
       replace H := Option.bind_eq_some_iff.mp H
       obtain ⟨t103, A150, H⟩ := H
       (try dsimp only at H)
       have A15 := Aside0.mk A150
       clear A150
       have HC16 := Aside0.mk H
       clear H
       have p11 : 0 ≤ (x3_2 : Int) := of_decide_eq_true (by assumption)
       have q11 : x3_2 < (a0.size : Int) := of_decide_eq_true (by assumption)
       have hx11 := bt_at a0 x3_2
       replace p11 := eq_true p11
       replace q11 := eq_true q11
       go_upto_if 34 with (first | ((with_reducible refine am_ (f := 106) rfl ?_); refine aX_ (some 26) rfl rfl Try.func106 (by kernel_rfl) rfl #[.int .u8 (bt a0 x3_2)] rfl (by first | rfl | (simp only [List.map_toArray, List.map_cons, List.map_nil]; first | done | rfl)) ?_; (with_reducible refine (cw_.calls (bt a0 x3_2) false _ A12.out).mono ?_); rintro e w' ⟨rfl, ⟨nd, rfl⟩⟩; refine ⟨_, rfl, ?_⟩; skip; have p14 : 0 ≤ (x3_2 : Int) := of_decide_eq_true (by assumption); have q14 : x3_2 < (a0.size : Int) := of_decide_eq_true (by assumption); have hx14 := bt_at a0 x3_2; replace p14 := eq_true p14; replace q14 := eq_true q14) | (go_at_call 107; (with_reducible refine (db_.calls (bt a0 x3_2) t103 _ A15.out).mono ?_); rintro e w' ⟨rfl, ⟨nd, rfl⟩⟩; skip))
       (try simp only [Act.put, lsa_, ls0_, ls1_])
       have H := HC16.out
       clear HC16
       by_cases c17 : t103 = true
       rotate_left
       ·replace c17 := Bool.eq_false_iff.mpr c17
        subst c17
        have H1 : (some false) = some r := by rw [if_neg (show ¬ (false = true) by decide)] at H; exact H
        clear H
        have H := H1
        clear H1
        obtain rfl := Option.some.inj H
        go_wp2
        go_ret
        exact ⟨by first | rfl | (simp; done) | (simp [*]; done), by repeat (first | exact av_.refl _ | apply av_.step)⟩
       subst c17
       have H1 : (ba_.l0 k2 a0 (wrap64 (x3_2 + 1))) = some r := by rw [if_pos rfl] at H; exact H
       clear H
       have H := H1
       clear H1
       have H' := Aside0.mk H
       clear H
       go_wp2
       go_roundg k2
       case measure => have := HJ1.out; have := HK2.out; omega
       case rel => exact ⟨(wrap64 (x3_2 + 1)), (by first | rfl | (simp; done) | (simp [*]; done)), H', ⟨by have := HJ1.out; have := HK2.out; omega⟩, by repeat (first | exact av_.refl _ | apply av_.step)⟩
      subst c13
      have H1 : (ba_.l0 k2 a0 (wrap64 (x3_2 + 1))) = some r := by rw [if_pos rfl] at H; exact H
      clear H
      have H := H1
      clear H1
      have H' := Aside0.mk H
      clear H
      have p11 : 0 ≤ (x3_2 : Int) := of_decide_eq_true (by assumption)
      have q11 : x3_2 < (a0.size : Int) := of_decide_eq_true (by assumption)
      have hx11 := bt_at a0 x3_2
      replace p11 := eq_true p11
      replace q11 := eq_true q11
      go_wp2_with (first | ((with_reducible refine am_ (f := 106) rfl ?_); refine aX_ (some 26) rfl rfl Try.func106 (by kernel_rfl) rfl #[.int .u8 (bt a0 x3_2)] rfl (by first | rfl | (simp only [List.map_toArray, List.map_cons, List.map_nil]; first | done | rfl)) ?_; (with_reducible refine (cw_.calls (bt a0 x3_2) true _ A12.out).mono ?_); rintro e w' ⟨rfl, ⟨nd, rfl⟩⟩; refine ⟨_, rfl, ?_⟩))
      go_roundg k2
      case measure => have := HJ1.out; have := HK2.out; omega
      case rel => exact ⟨(wrap64 (x3_2 + 1)), (by first | rfl | (simp; done) | (simp [*]; done)), H', ⟨by have := HJ1.out; have := HK2.out; omega⟩, by repeat (first | exact av_.refl _ | apply av_.step)⟩
   subst c8
   have H1 : (some false) = some r := by rw [if_pos rfl] at H; exact H
   clear H
   have H := H1
   clear H1
   obtain rfl := Option.some.inj H
   go_wp2
   go_ret
   exact ⟨by first | rfl | (simp; done) | (simp [*]; done), by repeat (first | exact av_.refl _ | apply av_.step)⟩
def bZ_.f (a0 : Int) (a1 : Int) (a2 : Int) : Option (Bool) := if a0 ≥ a1 then (some (decide (a0 ≤ a2))) else (some false)
set_option maxHeartbeats 8000000 in
set_option maxRecDepth 100000 in
theorem bZ_.calls (a0 : Int) (a1 : Int) (a2 : Int) (r : Bool) (w : World) (h : bZ_.f a0 a1 a2 = some r) :
  Calls Try.prog 74 #[.int .i64 a0, .int .i64 a1, .int .i64 a2] w fun e w' => e = .returned (.bool r) ∧ av_ w w' := by
 have H : (if a0 ≥ a1 then (some (decide (a0 ≤ a2))) else (some false)) = some r := h
 clear h
 by_cases c4 : a0 ≥ a1
 rotate_left
 ·rw [if_neg c4] at H
  have c4b0 : decide (a1 ≤ a0) = false := decide_eq_false c4
  clear c4
  obtain rfl := Option.some.inj H
  go_enter Try.func74, Try.ntmps74
  go_wp2
  go_ret
  exact ⟨by first | rfl | (simp; done) | (simp [*]; done), by repeat (first | exact av_.refl _ | apply av_.step)⟩
 rw [if_pos c4] at H
 have c4b0 : decide (a1 ≤ a0) = true := decide_eq_true c4
 clear c4
 obtain rfl := Option.some.inj H
 go_enter Try.func74, Try.ntmps74
 go_wp2
 go_ret
 exact ⟨by first | rfl | (simp; done) | (simp [*]; done), by repeat (first | exact av_.refl _ | apply av_.step)⟩
def cO_.f  : Option ((List (List Int))) := some (([(([20, 40, 310] : List Int)), (([35, 45, 410] : List Int)), (([15, 33, 280] : List Int)), (([50, 36, 240] : List Int)), (([95, 85, 270] : List Int)), (([5, 35, 370] : List Int)), (([10, 42, 290] : List Int)), (([40, 40, 330] : List Int)), (([80, 60, 220] : List Int)), (([70, 38, 260] : List Int))] : List (List Int)))
set_option maxHeartbeats 8000000 in
set_option maxRecDepth 100000 in
theorem cO_.calls  (r : List (List Int)) (w : World) (h : cO_.f  = some r) :
  Calls Try.prog 100 #[] w fun e w' => ∃ v0_ : Value, e = .returned (v0_) ∧ Kd.N (Kd.slice 2 (Kd.int .i64)) 100 w' w.heap.size (fun k_ => (w.heap.size ≤ k_)) v0_ r ∧ Below w.heap.size w w' := by
 have HB := Aside0.mk (Below.refl w.heap.size w)
 have H : (some (([(([20, 40, 310] : List Int)), (([35, 45, 410] : List Int)), (([15, 33, 280] : List Int)), (([50, 36, 240] : List Int)), (([95, 85, 270] : List Int)), (([5, 35, 370] : List Int)), (([10, 42, 290] : List Int)), (([40, 40, 330] : List Int)), (([80, 60, 220] : List Int)), (([70, 38, 260] : List Int))] : List (List Int)))) = some r := h
 clear h
 obtain ⟨y101, hy101⟩ : ∃ y_ : List Int, y_ = (([20, 40, 310] : List Int)) := ⟨_, rfl⟩
 replace H : (some (([y101, (([35, 45, 410] : List Int)), (([15, 33, 280] : List Int)), (([50, 36, 240] : List Int)), (([95, 85, 270] : List Int)), (([5, 35, 370] : List Int)), (([10, 42, 290] : List Int)), (([40, 40, 330] : List Int)), (([80, 60, 220] : List Int)), (([70, 38, 260] : List Int))] : List (List Int)))) = some r := by first | (rw [hy101]; with_reducible exact H) | (have H2_ := (Option.bind_some _ _).symm.trans H; rw [hy101]; with_reducible exact H2_) | (have H2_ := (Option.bind_some _ _).symm.trans H; with_reducible exact H2_) | with_reducible exact H | (rw [hy101]; exact H) | exact H
 have Ny101 := Aside0.mk hy101
 clear hy101
 obtain ⟨y104, hy104⟩ : ∃ y_ : List Int, y_ = (([35, 45, 410] : List Int)) := ⟨_, rfl⟩
 replace H : (some (([y101, y104, (([15, 33, 280] : List Int)), (([50, 36, 240] : List Int)), (([95, 85, 270] : List Int)), (([5, 35, 370] : List Int)), (([10, 42, 290] : List Int)), (([40, 40, 330] : List Int)), (([80, 60, 220] : List Int)), (([70, 38, 260] : List Int))] : List (List Int)))) = some r := by first | (rw [hy104]; with_reducible exact H) | (have H2_ := (Option.bind_some _ _).symm.trans H; rw [hy104]; with_reducible exact H2_) | (have H2_ := (Option.bind_some _ _).symm.trans H; with_reducible exact H2_) | with_reducible exact H | (rw [hy104]; exact H) | exact H
 have Ny104 := Aside0.mk hy104
 clear hy104
 obtain ⟨y107, hy107⟩ : ∃ y_ : List Int, y_ = (([15, 33, 280] : List Int)) := ⟨_, rfl⟩
 replace H : (some (([y101, y104, y107, (([50, 36, 240] : List Int)), (([95, 85, 270] : List Int)), (([5, 35, 370] : List Int)), (([10, 42, 290] : List Int)), (([40, 40, 330] : List Int)), (([80, 60, 220] : List Int)), (([70, 38, 260] : List Int))] : List (List Int)))) = some r := by first | (rw [hy107]; with_reducible exact H) | (have H2_ := (Option.bind_some _ _).symm.trans H; rw [hy107]; with_reducible exact H2_) | (have H2_ := (Option.bind_some _ _).symm.trans H; with_reducible exact H2_) | with_reducible exact H | (rw [hy107]; exact H) | exact H
 have Ny107 := Aside0.mk hy107
 clear hy107
 obtain ⟨y110, hy110⟩ : ∃ y_ : List Int, y_ = (([50, 36, 240] : List Int)) := ⟨_, rfl⟩
 replace H : (some (([y101, y104, y107, y110, (([95, 85, 270] : List Int)), (([5, 35, 370] : List Int)), (([10, 42, 290] : List Int)), (([40, 40, 330] : List Int)), (([80, 60, 220] : List Int)), (([70, 38, 260] : List Int))] : List (List Int)))) = some r := by first | (rw [hy110]; with_reducible exact H) | (have H2_ := (Option.bind_some _ _).symm.trans H; rw [hy110]; with_reducible exact H2_) | (have H2_ := (Option.bind_some _ _).symm.trans H; with_reducible exact H2_) | with_reducible exact H | (rw [hy110]; exact H) | exact H
 have Ny110 := Aside0.mk hy110
 clear hy110
 obtain ⟨y113, hy113⟩ : ∃ y_ : List Int, y_ = (([95, 85, 270] : List Int)) := ⟨_, rfl⟩
 replace H : (some (([y101, y104, y107, y110, y113, (([5, 35, 370] : List Int)), (([10, 42, 290] : List Int)), (([40, 40, 330] : List Int)), (([80, 60, 220] : List Int)), (([70, 38, 260] : List Int))] : List (List Int)))) = some r := by first | (rw [hy113]; with_reducible exact H) | (have H2_ := (Option.bind_some _ _).symm.trans H; rw [hy113]; with_reducible exact H2_) | (have H2_ := (Option.bind_some _ _).symm.trans H; with_reducible exact H2_) | with_reducible exact H | (rw [hy113]; exact H) | exact H
 have Ny113 := Aside0.mk hy113
 clear hy113
 obtain ⟨y116, hy116⟩ : ∃ y_ : List Int, y_ = (([5, 35, 370] : List Int)) := ⟨_, rfl⟩
 replace H : (some (([y101, y104, y107, y110, y113, y116, (([10, 42, 290] : List Int)), (([40, 40, 330] : List Int)), (([80, 60, 220] : List Int)), (([70, 38, 260] : List Int))] : List (List Int)))) = some r := by first | (rw [hy116]; with_reducible exact H) | (have H2_ := (Option.bind_some _ _).symm.trans H; rw [hy116]; with_reducible exact H2_) | (have H2_ := (Option.bind_some _ _).symm.trans H; with_reducible exact H2_) | with_reducible exact H | (rw [hy116]; exact H) | exact H
 have Ny116 := Aside0.mk hy116
 clear hy116
 obtain ⟨y119, hy119⟩ : ∃ y_ : List Int, y_ = (([10, 42, 290] : List Int)) := ⟨_, rfl⟩
 replace H : (some (([y101, y104, y107, y110, y113, y116, y119, (([40, 40, 330] : List Int)), (([80, 60, 220] : List Int)), (([70, 38, 260] : List Int))] : List (List Int)))) = some r := by first | (rw [hy119]; with_reducible exact H) | (have H2_ := (Option.bind_some _ _).symm.trans H; rw [hy119]; with_reducible exact H2_) | (have H2_ := (Option.bind_some _ _).symm.trans H; with_reducible exact H2_) | with_reducible exact H | (rw [hy119]; exact H) | exact H
 have Ny119 := Aside0.mk hy119
 clear hy119
 obtain ⟨y122, hy122⟩ : ∃ y_ : List Int, y_ = (([40, 40, 330] : List Int)) := ⟨_, rfl⟩
 replace H : (some (([y101, y104, y107, y110, y113, y116, y119, y122, (([80, 60, 220] : List Int)), (([70, 38, 260] : List Int))] : List (List Int)))) = some r := by first | (rw [hy122]; with_reducible exact H) | (have H2_ := (Option.bind_some _ _).symm.trans H; rw [hy122]; with_reducible exact H2_) | (have H2_ := (Option.bind_some _ _).symm.trans H; with_reducible exact H2_) | with_reducible exact H | (rw [hy122]; exact H) | exact H
 have Ny122 := Aside0.mk hy122
 clear hy122
 obtain ⟨y125, hy125⟩ : ∃ y_ : List Int, y_ = (([80, 60, 220] : List Int)) := ⟨_, rfl⟩
 replace H : (some (([y101, y104, y107, y110, y113, y116, y119, y122, y125, (([70, 38, 260] : List Int))] : List (List Int)))) = some r := by first | (rw [hy125]; with_reducible exact H) | (have H2_ := (Option.bind_some _ _).symm.trans H; rw [hy125]; with_reducible exact H2_) | (have H2_ := (Option.bind_some _ _).symm.trans H; with_reducible exact H2_) | with_reducible exact H | (rw [hy125]; exact H) | exact H
 have Ny125 := Aside0.mk hy125
 clear hy125
 obtain ⟨y128, hy128⟩ : ∃ y_ : List Int, y_ = (([70, 38, 260] : List Int)) := ⟨_, rfl⟩
 replace H : (some (([y101, y104, y107, y110, y113, y116, y119, y122, y125, y128] : List (List Int)))) = some r := by first | (rw [hy128]; with_reducible exact H) | (have H2_ := (Option.bind_some _ _).symm.trans H; rw [hy128]; with_reducible exact H2_) | (have H2_ := (Option.bind_some _ _).symm.trans H; with_reducible exact H2_) | with_reducible exact H | (rw [hy128]; exact H) | exact H
 have Ny128 := Aside0.mk hy128
 clear hy128
 obtain ⟨y131, hy131⟩ : ∃ y_ : List (List Int), y_ = (([y101, y104, y107, y110, y113, y116, y119, y122, y125, y128] : List (List Int))) := ⟨_, rfl⟩
 replace H : (some y131) = some r := by first | (rw [hy131]; with_reducible exact H) | (have H2_ := (Option.bind_some _ _).symm.trans H; rw [hy131]; with_reducible exact H2_) | (have H2_ := (Option.bind_some _ _).symm.trans H; with_reducible exact H2_) | with_reducible exact H | (rw [hy131]; exact H) | exact H
 have Ny131 := Aside0.mk hy131
 clear hy131
 obtain rfl := Option.some.inj H
 go_enter Try.func100, Try.ntmps100
 go_wp2_with (first | ((with_reducible refine au_ (N := 1) rfl ?_); refine Kd.R_lit (Kd.int .i64) _ 2 ?hg (N := 1) ?hd (xs := ([20, 40, 310] : List Int)) (inner := [.int .i64 20, .int .i64 40, .int .i64 310]) (ok := fun _ => True) (okp := fun _ => True) ?hr ?hp (fun _ hk => hk) trivial (Below.refl _ _) (Nat.le_refl _) (by simp) ?_; (case hd => rfl); (case hg => rfl); (case hr => (go_simp; try rfl)); (case hp => exact (Reps.one (show Kd.M (Kd.int .i64) _ _ _ 20 [.int .i64 20] from rfl) (Reps.one (show Kd.M (Kd.int .i64) _ _ _ 40 [.int .i64 40] from rfl) (Reps.one (show Kd.M (Kd.int .i64) _ _ _ 310 [.int .i64 310] from rfl) (Reps.none _ _))))); intro v102 w1 ho2 hb hg_ hnew_; clear hg_ hnew_; (first | rw [← Ny101.out] at ho2 | (simp only [Int.reduceToNat] at ho2; rw [← Ny101.out] at ho2)); have HO103 := Aside0.mk (Kd.bI_ (Kd.dn_ (M := fun k_ => (w.heap.size ≤ k_)) ho2 (ae_ (bz HB.out)) (fun k_ h_ => h_)) (ae_ (bz HB.out))); replace HB := Aside0.mk (ag_ (bz HB.out) hb); clear hb ho2) | ((with_reducible refine au_ (N := 2) rfl ?_); refine Kd.R_lit (Kd.int .i64) _ 2 ?hg (N := 2) ?hd (xs := ([35, 45, 410] : List Int)) (inner := [.int .i64 35, .int .i64 45, .int .i64 410]) (ok := fun _ => True) (okp := fun _ => True) ?hr ?hp (fun _ hk => hk) trivial (Below.refl _ _) (Nat.le_refl _) (by simp) ?_; (case hd => rfl); (case hg => rfl); (case hr => (go_simp; try rfl)); (case hp => exact (Reps.one (show Kd.M (Kd.int .i64) _ _ _ 35 [.int .i64 35] from rfl) (Reps.one (show Kd.M (Kd.int .i64) _ _ _ 45 [.int .i64 45] from rfl) (Reps.one (show Kd.M (Kd.int .i64) _ _ _ 410 [.int .i64 410] from rfl) (Reps.none _ _))))); intro v105 w3 ho4 hb hg_ hnew_; clear hg_ hnew_; (first | rw [← Ny104.out] at ho4 | (simp only [Int.reduceToNat] at ho4; rw [← Ny104.out] at ho4)); have HO106 := Aside0.mk (Kd.bI_ (Kd.bU_ (Kd.dn_ (M := fun k_ => (w.heap.size ≤ k_)) ho4 (ae_ (bz HB.out)) (fun k_ h_ => h_)) (Kd.R_lt (rz HO103.out))) (ae_ (bz HB.out))); replace HO103 := Aside0.mk (Kd.bo_ (rz HO103.out) (Kd.bv_ ho4) hb); replace HB := Aside0.mk (ag_ (bz HB.out) hb); clear hb ho4) | ((with_reducible refine au_ (N := 3) rfl ?_); refine Kd.R_lit (Kd.int .i64) _ 2 ?hg (N := 3) ?hd (xs := ([15, 33, 280] : List Int)) (inner := [.int .i64 15, .int .i64 33, .int .i64 280]) (ok := fun _ => True) (okp := fun _ => True) ?hr ?hp (fun _ hk => hk) trivial (Below.refl _ _) (Nat.le_refl _) (by simp) ?_; (case hd => rfl); (case hg => rfl); (case hr => (go_simp; try rfl)); (case hp => exact (Reps.one (show Kd.M (Kd.int .i64) _ _ _ 15 [.int .i64 15] from rfl) (Reps.one (show Kd.M (Kd.int .i64) _ _ _ 33 [.int .i64 33] from rfl) (Reps.one (show Kd.M (Kd.int .i64) _ _ _ 280 [.int .i64 280] from rfl) (Reps.none _ _))))); intro v108 w5 ho6 hb hg_ hnew_; clear hg_ hnew_; (first | rw [← Ny107.out] at ho6 | (simp only [Int.reduceToNat] at ho6; rw [← Ny107.out] at ho6)); have HO109 := Aside0.mk (Kd.bI_ (Kd.bU_ (Kd.bU_ (Kd.dn_ (M := fun k_ => (w.heap.size ≤ k_)) ho6 (ae_ (bz HB.out)) (fun k_ h_ => h_)) (Kd.R_lt (rz HO103.out))) (Kd.R_lt (rz HO106.out))) (ae_ (bz HB.out))); replace HO103 := Aside0.mk (Kd.bo_ (rz HO103.out) (Kd.bv_ ho6) hb); replace HO106 := Aside0.mk (Kd.bo_ (rz HO106.out) (Kd.bv_ ho6) hb); replace HB := Aside0.mk (ag_ (bz HB.out) hb); clear hb ho6) | ((with_reducible refine au_ (N := 4) rfl ?_); refine Kd.R_lit (Kd.int .i64) _ 2 ?hg (N := 4) ?hd (xs := ([50, 36, 240] : List Int)) (inner := [.int .i64 50, .int .i64 36, .int .i64 240]) (ok := fun _ => True) (okp := fun _ => True) ?hr ?hp (fun _ hk => hk) trivial (Below.refl _ _) (Nat.le_refl _) (by simp) ?_; (case hd => rfl); (case hg => rfl); (case hr => (go_simp; try rfl)); (case hp => exact (Reps.one (show Kd.M (Kd.int .i64) _ _ _ 50 [.int .i64 50] from rfl) (Reps.one (show Kd.M (Kd.int .i64) _ _ _ 36 [.int .i64 36] from rfl) (Reps.one (show Kd.M (Kd.int .i64) _ _ _ 240 [.int .i64 240] from rfl) (Reps.none _ _))))); intro v111 w7 ho8 hb hg_ hnew_; clear hg_ hnew_; (first | rw [← Ny110.out] at ho8 | (simp only [Int.reduceToNat] at ho8; rw [← Ny110.out] at ho8)); have HO112 := Aside0.mk (Kd.bI_ (Kd.bU_ (Kd.bU_ (Kd.bU_ (Kd.dn_ (M := fun k_ => (w.heap.size ≤ k_)) ho8 (ae_ (bz HB.out)) (fun k_ h_ => h_)) (Kd.R_lt (rz HO103.out))) (Kd.R_lt (rz HO106.out))) (Kd.R_lt (rz HO109.out))) (ae_ (bz HB.out))); replace HO103 := Aside0.mk (Kd.bo_ (rz HO103.out) (Kd.bv_ ho8) hb); replace HO106 := Aside0.mk (Kd.bo_ (rz HO106.out) (Kd.bv_ ho8) hb); replace HO109 := Aside0.mk (Kd.bo_ (rz HO109.out) (Kd.bv_ ho8) hb); replace HB := Aside0.mk (ag_ (bz HB.out) hb); clear hb ho8) | ((with_reducible refine au_ (N := 5) rfl ?_); refine Kd.R_lit (Kd.int .i64) _ 2 ?hg (N := 5) ?hd (xs := ([95, 85, 270] : List Int)) (inner := [.int .i64 95, .int .i64 85, .int .i64 270]) (ok := fun _ => True) (okp := fun _ => True) ?hr ?hp (fun _ hk => hk) trivial (Below.refl _ _) (Nat.le_refl _) (by simp) ?_; (case hd => rfl); (case hg => rfl); (case hr => (go_simp; try rfl)); (case hp => exact (Reps.one (show Kd.M (Kd.int .i64) _ _ _ 95 [.int .i64 95] from rfl) (Reps.one (show Kd.M (Kd.int .i64) _ _ _ 85 [.int .i64 85] from rfl) (Reps.one (show Kd.M (Kd.int .i64) _ _ _ 270 [.int .i64 270] from rfl) (Reps.none _ _))))); intro v114 w9 ho10 hb hg_ hnew_; clear hg_ hnew_; (first | rw [← Ny113.out] at ho10 | (simp only [Int.reduceToNat] at ho10; rw [← Ny113.out] at ho10)); have HO115 := Aside0.mk (Kd.bI_ (Kd.bU_ (Kd.bU_ (Kd.bU_ (Kd.bU_ (Kd.dn_ (M := fun k_ => (w.heap.size ≤ k_)) ho10 (ae_ (bz HB.out)) (fun k_ h_ => h_)) (Kd.R_lt (rz HO103.out))) (Kd.R_lt (rz HO106.out))) (Kd.R_lt (rz HO109.out))) (Kd.R_lt (rz HO112.out))) (ae_ (bz HB.out))); replace HO103 := Aside0.mk (Kd.bo_ (rz HO103.out) (Kd.bv_ ho10) hb); replace HO106 := Aside0.mk (Kd.bo_ (rz HO106.out) (Kd.bv_ ho10) hb); replace HO109 := Aside0.mk (Kd.bo_ (rz HO109.out) (Kd.bv_ ho10) hb); replace HO112 := Aside0.mk (Kd.bo_ (rz HO112.out) (Kd.bv_ ho10) hb); replace HB := Aside0.mk (ag_ (bz HB.out) hb); clear hb ho10) | ((with_reducible refine au_ (N := 6) rfl ?_); refine Kd.R_lit (Kd.int .i64) _ 2 ?hg (N := 6) ?hd (xs := ([5, 35, 370] : List Int)) (inner := [.int .i64 5, .int .i64 35, .int .i64 370]) (ok := fun _ => True) (okp := fun _ => True) ?hr ?hp (fun _ hk => hk) trivial (Below.refl _ _) (Nat.le_refl _) (by simp) ?_; (case hd => rfl); (case hg => rfl); (case hr => (go_simp; try rfl)); (case hp => exact (Reps.one (show Kd.M (Kd.int .i64) _ _ _ 5 [.int .i64 5] from rfl) (Reps.one (show Kd.M (Kd.int .i64) _ _ _ 35 [.int .i64 35] from rfl) (Reps.one (show Kd.M (Kd.int .i64) _ _ _ 370 [.int .i64 370] from rfl) (Reps.none _ _))))); intro v117 w11 ho12 hb hg_ hnew_; clear hg_ hnew_; (first | rw [← Ny116.out] at ho12 | (simp only [Int.reduceToNat] at ho12; rw [← Ny116.out] at ho12)); have HO118 := Aside0.mk (Kd.bI_ (Kd.bU_ (Kd.bU_ (Kd.bU_ (Kd.bU_ (Kd.bU_ (Kd.dn_ (M := fun k_ => (w.heap.size ≤ k_)) ho12 (ae_ (bz HB.out)) (fun k_ h_ => h_)) (Kd.R_lt (rz HO103.out))) (Kd.R_lt (rz HO106.out))) (Kd.R_lt (rz HO109.out))) (Kd.R_lt (rz HO112.out))) (Kd.R_lt (rz HO115.out))) (ae_ (bz HB.out))); replace HO103 := Aside0.mk (Kd.bo_ (rz HO103.out) (Kd.bv_ ho12) hb); replace HO106 := Aside0.mk (Kd.bo_ (rz HO106.out) (Kd.bv_ ho12) hb); replace HO109 := Aside0.mk (Kd.bo_ (rz HO109.out) (Kd.bv_ ho12) hb); replace HO112 := Aside0.mk (Kd.bo_ (rz HO112.out) (Kd.bv_ ho12) hb); replace HO115 := Aside0.mk (Kd.bo_ (rz HO115.out) (Kd.bv_ ho12) hb); replace HB := Aside0.mk (ag_ (bz HB.out) hb); clear hb ho12) | ((with_reducible refine au_ (N := 7) rfl ?_); refine Kd.R_lit (Kd.int .i64) _ 2 ?hg (N := 7) ?hd (xs := ([10, 42, 290] : List Int)) (inner := [.int .i64 10, .int .i64 42, .int .i64 290]) (ok := fun _ => True) (okp := fun _ => True) ?hr ?hp (fun _ hk => hk) trivial (Below.refl _ _) (Nat.le_refl _) (by simp) ?_; (case hd => rfl); (case hg => rfl); (case hr => (go_simp; try rfl)); (case hp => exact (Reps.one (show Kd.M (Kd.int .i64) _ _ _ 10 [.int .i64 10] from rfl) (Reps.one (show Kd.M (Kd.int .i64) _ _ _ 42 [.int .i64 42] from rfl) (Reps.one (show Kd.M (Kd.int .i64) _ _ _ 290 [.int .i64 290] from rfl) (Reps.none _ _))))); intro v120 w13 ho14 hb hg_ hnew_; clear hg_ hnew_; (first | rw [← Ny119.out] at ho14 | (simp only [Int.reduceToNat] at ho14; rw [← Ny119.out] at ho14)); have HO121 := Aside0.mk (Kd.bI_ (Kd.bU_ (Kd.bU_ (Kd.bU_ (Kd.bU_ (Kd.bU_ (Kd.bU_ (Kd.dn_ (M := fun k_ => (w.heap.size ≤ k_)) ho14 (ae_ (bz HB.out)) (fun k_ h_ => h_)) (Kd.R_lt (rz HO103.out))) (Kd.R_lt (rz HO106.out))) (Kd.R_lt (rz HO109.out))) (Kd.R_lt (rz HO112.out))) (Kd.R_lt (rz HO115.out))) (Kd.R_lt (rz HO118.out))) (ae_ (bz HB.out))); replace HO103 := Aside0.mk (Kd.bo_ (rz HO103.out) (Kd.bv_ ho14) hb); replace HO106 := Aside0.mk (Kd.bo_ (rz HO106.out) (Kd.bv_ ho14) hb); replace HO109 := Aside0.mk (Kd.bo_ (rz HO109.out) (Kd.bv_ ho14) hb); replace HO112 := Aside0.mk (Kd.bo_ (rz HO112.out) (Kd.bv_ ho14) hb); replace HO115 := Aside0.mk (Kd.bo_ (rz HO115.out) (Kd.bv_ ho14) hb); replace HO118 := Aside0.mk (Kd.bo_ (rz HO118.out) (Kd.bv_ ho14) hb); replace HB := Aside0.mk (ag_ (bz HB.out) hb); clear hb ho14) | ((with_reducible refine au_ (N := 8) rfl ?_); refine Kd.R_lit (Kd.int .i64) _ 2 ?hg (N := 8) ?hd (xs := ([40, 40, 330] : List Int)) (inner := [.int .i64 40, .int .i64 40, .int .i64 330]) (ok := fun _ => True) (okp := fun _ => True) ?hr ?hp (fun _ hk => hk) trivial (Below.refl _ _) (Nat.le_refl _) (by simp) ?_; (case hd => rfl); (case hg => rfl); (case hr => (go_simp; try rfl)); (case hp => exact (Reps.one (show Kd.M (Kd.int .i64) _ _ _ 40 [.int .i64 40] from rfl) (Reps.one (show Kd.M (Kd.int .i64) _ _ _ 40 [.int .i64 40] from rfl) (Reps.one (show Kd.M (Kd.int .i64) _ _ _ 330 [.int .i64 330] from rfl) (Reps.none _ _))))); intro v123 w15 ho16 hb hg_ hnew_; clear hg_ hnew_; (first | rw [← Ny122.out] at ho16 | (simp only [Int.reduceToNat] at ho16; rw [← Ny122.out] at ho16)); have HO124 := Aside0.mk (Kd.bI_ (Kd.bU_ (Kd.bU_ (Kd.bU_ (Kd.bU_ (Kd.bU_ (Kd.bU_ (Kd.bU_ (Kd.dn_ (M := fun k_ => (w.heap.size ≤ k_)) ho16 (ae_ (bz HB.out)) (fun k_ h_ => h_)) (Kd.R_lt (rz HO103.out))) (Kd.R_lt (rz HO106.out))) (Kd.R_lt (rz HO109.out))) (Kd.R_lt (rz HO112.out))) (Kd.R_lt (rz HO115.out))) (Kd.R_lt (rz HO118.out))) (Kd.R_lt (rz HO121.out))) (ae_ (bz HB.out))); replace HO103 := Aside0.mk (Kd.bo_ (rz HO103.out) (Kd.bv_ ho16) hb); replace HO106 := Aside0.mk (Kd.bo_ (rz HO106.out) (Kd.bv_ ho16) hb); replace HO109 := Aside0.mk (Kd.bo_ (rz HO109.out) (Kd.bv_ ho16) hb); replace HO112 := Aside0.mk (Kd.bo_ (rz HO112.out) (Kd.bv_ ho16) hb); replace HO115 := Aside0.mk (Kd.bo_ (rz HO115.out) (Kd.bv_ ho16) hb); replace HO118 := Aside0.mk (Kd.bo_ (rz HO118.out) (Kd.bv_ ho16) hb); replace HO121 := Aside0.mk (Kd.bo_ (rz HO121.out) (Kd.bv_ ho16) hb); replace HB := Aside0.mk (ag_ (bz HB.out) hb); clear hb ho16) | ((with_reducible refine au_ (N := 9) rfl ?_); refine Kd.R_lit (Kd.int .i64) _ 2 ?hg (N := 9) ?hd (xs := ([80, 60, 220] : List Int)) (inner := [.int .i64 80, .int .i64 60, .int .i64 220]) (ok := fun _ => True) (okp := fun _ => True) ?hr ?hp (fun _ hk => hk) trivial (Below.refl _ _) (Nat.le_refl _) (by simp) ?_; (case hd => rfl); (case hg => rfl); (case hr => (go_simp; try rfl)); (case hp => exact (Reps.one (show Kd.M (Kd.int .i64) _ _ _ 80 [.int .i64 80] from rfl) (Reps.one (show Kd.M (Kd.int .i64) _ _ _ 60 [.int .i64 60] from rfl) (Reps.one (show Kd.M (Kd.int .i64) _ _ _ 220 [.int .i64 220] from rfl) (Reps.none _ _))))); intro v126 w17 ho18 hb hg_ hnew_; clear hg_ hnew_; (first | rw [← Ny125.out] at ho18 | (simp only [Int.reduceToNat] at ho18; rw [← Ny125.out] at ho18)); have HO127 := Aside0.mk (Kd.bI_ (Kd.bU_ (Kd.bU_ (Kd.bU_ (Kd.bU_ (Kd.bU_ (Kd.bU_ (Kd.bU_ (Kd.bU_ (Kd.dn_ (M := fun k_ => (w.heap.size ≤ k_)) ho18 (ae_ (bz HB.out)) (fun k_ h_ => h_)) (Kd.R_lt (rz HO103.out))) (Kd.R_lt (rz HO106.out))) (Kd.R_lt (rz HO109.out))) (Kd.R_lt (rz HO112.out))) (Kd.R_lt (rz HO115.out))) (Kd.R_lt (rz HO118.out))) (Kd.R_lt (rz HO121.out))) (Kd.R_lt (rz HO124.out))) (ae_ (bz HB.out))); replace HO103 := Aside0.mk (Kd.bo_ (rz HO103.out) (Kd.bv_ ho18) hb); replace HO106 := Aside0.mk (Kd.bo_ (rz HO106.out) (Kd.bv_ ho18) hb); replace HO109 := Aside0.mk (Kd.bo_ (rz HO109.out) (Kd.bv_ ho18) hb); replace HO112 := Aside0.mk (Kd.bo_ (rz HO112.out) (Kd.bv_ ho18) hb); replace HO115 := Aside0.mk (Kd.bo_ (rz HO115.out) (Kd.bv_ ho18) hb); replace HO118 := Aside0.mk (Kd.bo_ (rz HO118.out) (Kd.bv_ ho18) hb); replace HO121 := Aside0.mk (Kd.bo_ (rz HO121.out) (Kd.bv_ ho18) hb); replace HO124 := Aside0.mk (Kd.bo_ (rz HO124.out) (Kd.bv_ ho18) hb); replace HB := Aside0.mk (ag_ (bz HB.out) hb); clear hb ho18) | ((with_reducible refine au_ (N := 10) rfl ?_); refine Kd.R_lit (Kd.int .i64) _ 2 ?hg (N := 10) ?hd (xs := ([70, 38, 260] : List Int)) (inner := [.int .i64 70, .int .i64 38, .int .i64 260]) (ok := fun _ => True) (okp := fun _ => True) ?hr ?hp (fun _ hk => hk) trivial (Below.refl _ _) (Nat.le_refl _) (by simp) ?_; (case hd => rfl); (case hg => rfl); (case hr => (go_simp; try rfl)); (case hp => exact (Reps.one (show Kd.M (Kd.int .i64) _ _ _ 70 [.int .i64 70] from rfl) (Reps.one (show Kd.M (Kd.int .i64) _ _ _ 38 [.int .i64 38] from rfl) (Reps.one (show Kd.M (Kd.int .i64) _ _ _ 260 [.int .i64 260] from rfl) (Reps.none _ _))))); intro v129 w19 ho20 hb hg_ hnew_; clear hg_ hnew_; (first | rw [← Ny128.out] at ho20 | (simp only [Int.reduceToNat] at ho20; rw [← Ny128.out] at ho20)); have HO130 := Aside0.mk (Kd.bI_ (Kd.bU_ (Kd.bU_ (Kd.bU_ (Kd.bU_ (Kd.bU_ (Kd.bU_ (Kd.bU_ (Kd.bU_ (Kd.bU_ (Kd.dn_ (M := fun k_ => (w.heap.size ≤ k_)) ho20 (ae_ (bz HB.out)) (fun k_ h_ => h_)) (Kd.R_lt (rz HO103.out))) (Kd.R_lt (rz HO106.out))) (Kd.R_lt (rz HO109.out))) (Kd.R_lt (rz HO112.out))) (Kd.R_lt (rz HO115.out))) (Kd.R_lt (rz HO118.out))) (Kd.R_lt (rz HO121.out))) (Kd.R_lt (rz HO124.out))) (Kd.R_lt (rz HO127.out))) (ae_ (bz HB.out))); replace HO103 := Aside0.mk (Kd.bo_ (rz HO103.out) (Kd.bv_ ho20) hb); replace HO106 := Aside0.mk (Kd.bo_ (rz HO106.out) (Kd.bv_ ho20) hb); replace HO109 := Aside0.mk (Kd.bo_ (rz HO109.out) (Kd.bv_ ho20) hb); replace HO112 := Aside0.mk (Kd.bo_ (rz HO112.out) (Kd.bv_ ho20) hb); replace HO115 := Aside0.mk (Kd.bo_ (rz HO115.out) (Kd.bv_ ho20) hb); replace HO118 := Aside0.mk (Kd.bo_ (rz HO118.out) (Kd.bv_ ho20) hb); replace HO121 := Aside0.mk (Kd.bo_ (rz HO121.out) (Kd.bv_ ho20) hb); replace HO124 := Aside0.mk (Kd.bo_ (rz HO124.out) (Kd.bv_ ho20) hb); replace HO127 := Aside0.mk (Kd.bo_ (rz HO127.out) (Kd.bv_ ho20) hb); replace HB := Aside0.mk (ag_ (bz HB.out) hb); clear hb ho20; obtain ⟨Ao21, co21, eo21⟩ := Kd.bF_ HO103.out; subst eo21; obtain ⟨Ao22, co22, eo22⟩ := Kd.bF_ HO106.out; subst eo22; obtain ⟨Ao23, co23, eo23⟩ := Kd.bF_ HO109.out; subst eo23; obtain ⟨Ao24, co24, eo24⟩ := Kd.bF_ HO112.out; subst eo24; obtain ⟨Ao25, co25, eo25⟩ := Kd.bF_ HO115.out; subst eo25; obtain ⟨Ao26, co26, eo26⟩ := Kd.bF_ HO118.out; subst eo26; obtain ⟨Ao27, co27, eo27⟩ := Kd.bF_ HO121.out; subst eo27; obtain ⟨Ao28, co28, eo28⟩ := Kd.bF_ HO124.out; subst eo28; obtain ⟨Ao29, co29, eo29⟩ := Kd.bF_ HO127.out; subst eo29; obtain ⟨Ao30, co30, eo30⟩ := Kd.bF_ HO130.out; subst eo30) | ((with_reducible refine au_ (N := 11) rfl ?_); refine Kd.N_lit (Kd.slice 2 (Kd.int .i64)) _ 100 ?hg (N' := 11) ?hd (xs := ([y101, y104, y107, y110, y113, y116, y119, y122, y125, y128] : List (List Int))) (inner := [.slice Ao21 y101.length co21, .slice Ao22 y104.length co22, .slice Ao23 y107.length co23, .slice Ao24 y110.length co24, .slice Ao25 y113.length co25, .slice Ao26 y116.length co26, .slice Ao27 y119.length co27, .slice Ao28 y122.length co28, .slice Ao29 y125.length co29, .slice Ao30 y128.length co30]) (ok := (fun k_ => (w.heap.size ≤ k_))) (okp := (fun k_ => (w.heap.size ≤ k_))) ?hr ?hp (fun _ hk => hk) ((show ∀ k_, w19.heap.size ≤ k_ → (fun k_ => (w.heap.size ≤ k_)) k_ from fun k_ hk => (Nat.le_trans (ae_ (bz HB.out)) hk)) _ (Nat.le_refl _)) (Below.refl _ _) (Nat.le_refl _) (by simp) ?_; (case hd => rfl); (case hg => rfl); (case hr => (go_simp; try rfl)); (case hp => exact (Reps.one (show Kd.FK (Kd.slice 2 (Kd.int .i64)) _ _ y101 [.slice Ao21 y101.length co21] from (Kd.cl_ (Kd.bf_ (Kd.aK_ (ok' := (fun k_ => (w.heap.size ≤ k_))) (HO103.out) (fun k_ hk => hk.1.1.1.1.1.1.1.1.1.1))).2.1 (Kd.R_F (Kd.aK_ (ok' := (fun k_ => (w.heap.size ≤ k_))) (HO103.out) (fun k_ hk => hk.1.1.1.1.1.1.1.1.1.1))))) (Reps.one (show Kd.FK (Kd.slice 2 (Kd.int .i64)) _ _ y104 [.slice Ao22 y104.length co22] from (Kd.cl_ (Kd.bf_ (Kd.aK_ (ok' := (fun k_ => (w.heap.size ≤ k_))) (HO106.out) (fun k_ hk => hk.1.1.1.1.1.1.1.1.1.1))).2.1 (Kd.R_F (Kd.aK_ (ok' := (fun k_ => (w.heap.size ≤ k_))) (HO106.out) (fun k_ hk => hk.1.1.1.1.1.1.1.1.1.1))))) (Reps.one (show Kd.FK (Kd.slice 2 (Kd.int .i64)) _ _ y107 [.slice Ao23 y107.length co23] from (Kd.cl_ (Kd.bf_ (Kd.aK_ (ok' := (fun k_ => (w.heap.size ≤ k_))) (HO109.out) (fun k_ hk => hk.1.1.1.1.1.1.1.1.1.1))).2.1 (Kd.R_F (Kd.aK_ (ok' := (fun k_ => (w.heap.size ≤ k_))) (HO109.out) (fun k_ hk => hk.1.1.1.1.1.1.1.1.1.1))))) (Reps.one (show Kd.FK (Kd.slice 2 (Kd.int .i64)) _ _ y110 [.slice Ao24 y110.length co24] from (Kd.cl_ (Kd.bf_ (Kd.aK_ (ok' := (fun k_ => (w.heap.size ≤ k_))) (HO112.out) (fun k_ hk => hk.1.1.1.1.1.1.1.1.1.1))).2.1 (Kd.R_F (Kd.aK_ (ok' := (fun k_ => (w.heap.size ≤ k_))) (HO112.out) (fun k_ hk => hk.1.1.1.1.1.1.1.1.1.1))))) (Reps.one (show Kd.FK (Kd.slice 2 (Kd.int .i64)) _ _ y113 [.slice Ao25 y113.length co25] from (Kd.cl_ (Kd.bf_ (Kd.aK_ (ok' := (fun k_ => (w.heap.size ≤ k_))) (HO115.out) (fun k_ hk => hk.1.1.1.1.1.1.1.1.1.1))).2.1 (Kd.R_F (Kd.aK_ (ok' := (fun k_ => (w.heap.size ≤ k_))) (HO115.out) (fun k_ hk => hk.1.1.1.1.1.1.1.1.1.1))))) (Reps.one (show Kd.FK (Kd.slice 2 (Kd.int .i64)) _ _ y116 [.slice Ao26 y116.length co26] from (Kd.cl_ (Kd.bf_ (Kd.aK_ (ok' := (fun k_ => (w.heap.size ≤ k_))) (HO118.out) (fun k_ hk => hk.1.1.1.1.1.1.1.1.1.1))).2.1 (Kd.R_F (Kd.aK_ (ok' := (fun k_ => (w.heap.size ≤ k_))) (HO118.out) (fun k_ hk => hk.1.1.1.1.1.1.1.1.1.1))))) (Reps.one (show Kd.FK (Kd.slice 2 (Kd.int .i64)) _ _ y119 [.slice Ao27 y119.length co27] from (Kd.cl_ (Kd.bf_ (Kd.aK_ (ok' := (fun k_ => (w.heap.size ≤ k_))) (HO121.out) (fun k_ hk => hk.1.1.1.1.1.1.1.1.1.1))).2.1 (Kd.R_F (Kd.aK_ (ok' := (fun k_ => (w.heap.size ≤ k_))) (HO121.out) (fun k_ hk => hk.1.1.1.1.1.1.1.1.1.1))))) (Reps.one (show Kd.FK (Kd.slice 2 (Kd.int .i64)) _ _ y122 [.slice Ao28 y122.length co28] from (Kd.cl_ (Kd.bf_ (Kd.aK_ (ok' := (fun k_ => (w.heap.size ≤ k_))) (HO124.out) (fun k_ hk => hk.1.1.1.1.1.1.1.1.1.1))).2.1 (Kd.R_F (Kd.aK_ (ok' := (fun k_ => (w.heap.size ≤ k_))) (HO124.out) (fun k_ hk => hk.1.1.1.1.1.1.1.1.1.1))))) (Reps.one (show Kd.FK (Kd.slice 2 (Kd.int .i64)) _ _ y125 [.slice Ao29 y125.length co29] from (Kd.cl_ (Kd.bf_ (Kd.aK_ (ok' := (fun k_ => (w.heap.size ≤ k_))) (HO127.out) (fun k_ hk => hk.1.1.1.1.1.1.1.1.1.1))).2.1 (Kd.R_F (Kd.aK_ (ok' := (fun k_ => (w.heap.size ≤ k_))) (HO127.out) (fun k_ hk => hk.1.1.1.1.1.1.1.1.1.1))))) (Reps.one (show Kd.FK (Kd.slice 2 (Kd.int .i64)) _ _ y128 [.slice Ao30 y128.length co30] from (Kd.cl_ (Kd.bf_ (Kd.aK_ (ok' := (fun k_ => (w.heap.size ≤ k_))) (HO130.out) (fun k_ hk => hk.1.1.1.1.1.1.1.1.1.1))).2.1 (Kd.R_F (Kd.aK_ (ok' := (fun k_ => (w.heap.size ≤ k_))) (HO130.out) (fun k_ hk => hk.1.1.1.1.1.1.1.1.1.1))))) (Reps.none _ _)))))))))))); intro v132 w31 ho32 hb hg_ hnew_; clear hg_ hnew_; (first | rw [← Ny131.out] at ho32 | (simp only [Int.reduceToNat] at ho32; rw [← Ny131.out] at ho32)); have HO133 := Aside0.mk (Kd.dt_ ho32 (ae_ (bz HB.out))); replace HB := Aside0.mk (ag_ (bz HB.out) hb); clear HO103; clear HO106; clear HO109; clear HO112; clear HO115; clear HO118; clear HO121; clear HO124; clear HO127; clear HO130; clear hb ho32))
 go_ret
 exact ⟨_, by first | rfl | (simp [*, an_, ao_] <;> rfl), nz HO133.out, bz HB.out⟩
def dc_.f  : Option (List ByteArray) := some (([(⟨#[97, 115, 104]⟩ : ByteArray), (⟨#[98, 101, 101, 99, 104]⟩ : ByteArray), (⟨#[98, 105, 114, 99, 104]⟩ : ByteArray), (⟨#[99, 104, 101, 114, 114, 121]⟩ : ByteArray), (⟨#[101, 98, 111, 110, 121]⟩ : ByteArray), (⟨#[104, 111, 108, 108, 121]⟩ : ByteArray), (⟨#[109, 97, 112, 108, 101]⟩ : ByteArray), (⟨#[111, 97, 107]⟩ : ByteArray), (⟨#[114, 111, 115, 101, 119, 111, 111, 100]⟩ : ByteArray), (⟨#[119, 97, 108, 110, 117, 116]⟩ : ByteArray)] : List ByteArray))
set_option maxHeartbeats 8000000 in
set_option maxRecDepth 100000 in
theorem dc_.calls  (r : List ByteArray) (w : World) (h : dc_.f  = some r) :
  Calls Try.prog 101 #[] w fun e w' => ∃ v0_ : Value, e = .returned (v0_) ∧ Kd.R Kd.string 9 w' w.heap.size (fun _ => True) v0_ r ∧ Below w.heap.size w w' := by
 have HB := Aside0.mk (Below.refl w.heap.size w)
 have H : (some (([(⟨#[97, 115, 104]⟩ : ByteArray), (⟨#[98, 101, 101, 99, 104]⟩ : ByteArray), (⟨#[98, 105, 114, 99, 104]⟩ : ByteArray), (⟨#[99, 104, 101, 114, 114, 121]⟩ : ByteArray), (⟨#[101, 98, 111, 110, 121]⟩ : ByteArray), (⟨#[104, 111, 108, 108, 121]⟩ : ByteArray), (⟨#[109, 97, 112, 108, 101]⟩ : ByteArray), (⟨#[111, 97, 107]⟩ : ByteArray), (⟨#[114, 111, 115, 101, 119, 111, 111, 100]⟩ : ByteArray), (⟨#[119, 97, 108, 110, 117, 116]⟩ : ByteArray)] : List ByteArray))) = some r := h
 clear h
 obtain ⟨y101, hy101⟩ : ∃ y_ : List ByteArray, y_ = (([(⟨#[97, 115, 104]⟩ : ByteArray), (⟨#[98, 101, 101, 99, 104]⟩ : ByteArray), (⟨#[98, 105, 114, 99, 104]⟩ : ByteArray), (⟨#[99, 104, 101, 114, 114, 121]⟩ : ByteArray), (⟨#[101, 98, 111, 110, 121]⟩ : ByteArray), (⟨#[104, 111, 108, 108, 121]⟩ : ByteArray), (⟨#[109, 97, 112, 108, 101]⟩ : ByteArray), (⟨#[111, 97, 107]⟩ : ByteArray), (⟨#[114, 111, 115, 101, 119, 111, 111, 100]⟩ : ByteArray), (⟨#[119, 97, 108, 110, 117, 116]⟩ : ByteArray)] : List ByteArray)) := ⟨_, rfl⟩
 replace H : (some y101) = some r := by first | (rw [hy101]; with_reducible exact H) | (have H2_ := (Option.bind_some _ _).symm.trans H; rw [hy101]; with_reducible exact H2_) | (have H2_ := (Option.bind_some _ _).symm.trans H; with_reducible exact H2_) | with_reducible exact H | (rw [hy101]; exact H) | exact H
 have Ny101 := Aside0.mk hy101
 clear hy101
 obtain rfl := Option.some.inj H
 go_enter Try.func101, Try.ntmps101
 go_wp2_with (first | ((with_reducible refine au_ (N := 1) rfl ?_); refine Kd.R_lit Kd.string _ 9 ?hg (N := 1) ?hd (xs := ([(⟨#[97, 115, 104]⟩ : ByteArray), (⟨#[98, 101, 101, 99, 104]⟩ : ByteArray), (⟨#[98, 105, 114, 99, 104]⟩ : ByteArray), (⟨#[99, 104, 101, 114, 114, 121]⟩ : ByteArray), (⟨#[101, 98, 111, 110, 121]⟩ : ByteArray), (⟨#[104, 111, 108, 108, 121]⟩ : ByteArray), (⟨#[109, 97, 112, 108, 101]⟩ : ByteArray), (⟨#[111, 97, 107]⟩ : ByteArray), (⟨#[114, 111, 115, 101, 119, 111, 111, 100]⟩ : ByteArray), (⟨#[119, 97, 108, 110, 117, 116]⟩ : ByteArray)] : List ByteArray)) (inner := [.string (⟨#[97, 115, 104]⟩ : ByteArray), .string (⟨#[98, 101, 101, 99, 104]⟩ : ByteArray), .string (⟨#[98, 105, 114, 99, 104]⟩ : ByteArray), .string (⟨#[99, 104, 101, 114, 114, 121]⟩ : ByteArray), .string (⟨#[101, 98, 111, 110, 121]⟩ : ByteArray), .string (⟨#[104, 111, 108, 108, 121]⟩ : ByteArray), .string (⟨#[109, 97, 112, 108, 101]⟩ : ByteArray), .string (⟨#[111, 97, 107]⟩ : ByteArray), .string (⟨#[114, 111, 115, 101, 119, 111, 111, 100]⟩ : ByteArray), .string (⟨#[119, 97, 108, 110, 117, 116]⟩ : ByteArray)]) (ok := fun _ => True) (okp := fun _ => True) ?hr ?hp (fun _ hk => hk) trivial (Below.refl _ _) (Nat.le_refl _) (by simp) ?_; (case hd => rfl); (case hg => rfl); (case hr => (go_simp; try rfl)); (case hp => exact (Reps.one (show Kd.M Kd.string _ _ _ (⟨#[97, 115, 104]⟩ : ByteArray) [.string (⟨#[97, 115, 104]⟩ : ByteArray)] from rfl) (Reps.one (show Kd.M Kd.string _ _ _ (⟨#[98, 101, 101, 99, 104]⟩ : ByteArray) [.string (⟨#[98, 101, 101, 99, 104]⟩ : ByteArray)] from rfl) (Reps.one (show Kd.M Kd.string _ _ _ (⟨#[98, 105, 114, 99, 104]⟩ : ByteArray) [.string (⟨#[98, 105, 114, 99, 104]⟩ : ByteArray)] from rfl) (Reps.one (show Kd.M Kd.string _ _ _ (⟨#[99, 104, 101, 114, 114, 121]⟩ : ByteArray) [.string (⟨#[99, 104, 101, 114, 114, 121]⟩ : ByteArray)] from rfl) (Reps.one (show Kd.M Kd.string _ _ _ (⟨#[101, 98, 111, 110, 121]⟩ : ByteArray) [.string (⟨#[101, 98, 111, 110, 121]⟩ : ByteArray)] from rfl) (Reps.one (show Kd.M Kd.string _ _ _ (⟨#[104, 111, 108, 108, 121]⟩ : ByteArray) [.string (⟨#[104, 111, 108, 108, 121]⟩ : ByteArray)] from rfl) (Reps.one (show Kd.M Kd.string _ _ _ (⟨#[109, 97, 112, 108, 101]⟩ : ByteArray) [.string (⟨#[109, 97, 112, 108, 101]⟩ : ByteArray)] from rfl) (Reps.one (show Kd.M Kd.string _ _ _ (⟨#[111, 97, 107]⟩ : ByteArray) [.string (⟨#[111, 97, 107]⟩ : ByteArray)] from rfl) (Reps.one (show Kd.M Kd.string _ _ _ (⟨#[114, 111, 115, 101, 119, 111, 111, 100]⟩ : ByteArray) [.string (⟨#[114, 111, 115, 101, 119, 111, 111, 100]⟩ : ByteArray)] from rfl) (Reps.one (show Kd.M Kd.string _ _ _ (⟨#[119, 97, 108, 110, 117, 116]⟩ : ByteArray) [.string (⟨#[119, 97, 108, 110, 117, 116]⟩ : ByteArray)] from rfl) (Reps.none _ _)))))))))))); intro v102 w1 ho2 hb hg_ hnew_; clear hg_ hnew_; (first | rw [← Ny101.out] at ho2 | (simp only [Int.reduceToNat] at ho2; rw [← Ny101.out] at ho2)); have HO103 := Aside0.mk (Kd.bI_ ho2 (ae_ (bz HB.out))); replace HB := Aside0.mk (ag_ (bz HB.out) hb); clear hb ho2))
 go_ret
 exact ⟨_, by first | rfl | (simp [*, an_, ao_] <;> rfl), rz HO103.out, bz HB.out⟩
end Go.Proofs.Ytiheginanghhjaa.Q
