/- changes lead from one state to the other, undoing gives the state before, versions come from earlier ones This text holds the functions' walks and the words for them. -/
import Derived.Shelf.Small.Strs
import Derived.Shelf.Strconv.Itoa0
import Derived.Shelf.Strconv.Itoa1
import Derived.Shelf.LaysM
import Derived.Shelf.Strconv.Itoa2
import Derived.Shelf.Strconv.Itoa3
import Derived.Shelf.Strconv.Itoa4
import Derived.Test.YtiheginanghhjaaDoorProg
import Derived.Test.YtiheginanghhjaaDoorKFnProjectsa
import Derived.Test.YtiheginanghhjaaDoorKFnProjectsb
set_option linter.unusedVariables false
set_option linter.unusedSimpArgs false
namespace Go.Proofs.YtiheginanghhjaaDoor.Q
open Go.RowKit Go.Proofs.YtiheginanghhjaaDoorW.PrintWords Go.Proofs.YtiheginanghhjaaDoorW.PrintLast Go.Proofs.YtiheginanghhjaaDoorW.PrintMore
attribute [local go_sem] aJ_ aI_ aW_ aX_ az_ aA_ aG_ aH_
mutual
def aR_.l0 : Nat → List (S59) → List (S59) → Bool → Int → ByteArray → ByteArray → Int → Int → Option ((List (S59)))
 | 0, _, _, _, _, _, _, _, _ => none
 | k + 1, x0, x5, x6, x7, x102000, x102001, x102002, x102003 => if x7 < (x0.length : Int) then (if x6 = true then (aR_.j1 k x0 x5 x6 x7 false x102000 x102001 x102002 x102003) else (if 0 ≤ x7 then (aR_.j1 k x0 x5 x6 x7 (!(Op.bytesLess (((aa_ x0 x7).f0).toList) x102000.toList)) x102000 x102001 x102002 x102003) else (none))) else (if x6 = true then (some x5) else (if x5.length < 2932031007402 then (some (x5 ++ [(⟨x102000, (⟨x102001, x102002, x102003⟩ : S57)⟩ : S59)])) else (none)))
def aR_.j1 : Nat → List (S59) → List (S59) → Bool → Int → Bool → ByteArray → ByteArray → Int → Int → Option ((List (S59)))
 | 0, _, _, _, _, _, _, _, _, _ => none
 | k + 1, x0, x5, x6, x7, x26, x102000, x102001, x102002, x102003 => if x26 = true then (if x5.length < 2932031007402 then ((some (x5 ++ [(⟨x102000, (⟨x102001, x102002, x102003⟩ : S57)⟩ : S59)] : List (S59))).bind fun y109 => (if 0 ≤ x7 then (if x7 < (x0.length : Int) then (if ((aa_ x0 x7).f0).toList = x102000.toList then (aR_.l0 k x0 y109 true (wrap64 (x7 + 1)) x102000 x102001 x102002 x102003) else (if y109.length < 2932031007402 then (aR_.l0 k x0 (y109 ++ [(⟨(aa_ x0 x7).f0, (⟨(aa_ x0 x7).f1.f0, (aa_ x0 x7).f1.f1, (aa_ x0 x7).f1.f2⟩ : S57)⟩ : S59)]) true (wrap64 (x7 + 1)) x102000 x102001 x102002 x102003) else (none))) else (none)) else (none))) else (none)) else (if 0 ≤ x7 then (if x7 < (x0.length : Int) then (if ((aa_ x0 x7).f0).toList = x102000.toList then (aR_.l0 k x0 x5 x6 (wrap64 (x7 + 1)) x102000 x102001 x102002 x102003) else (if x5.length < 2932031007402 then (aR_.l0 k x0 (x5 ++ [(⟨(aa_ x0 x7).f0, (⟨(aa_ x0 x7).f1.f0, (aa_ x0 x7).f1.f1, (aa_ x0 x7).f1.f2⟩ : S57)⟩ : S59)]) x6 (wrap64 (x7 + 1)) x102000 x102001 x102002 x102003) else (none))) else (none)) else (none))
end
def aR_.f (k : Nat) (l0 : List (S59)) (a1_0 : ByteArray) (a1_1 : ByteArray) (a1_2 : Int) (a1_3 : Int) : Option ((List (S59))) := aR_.l0 k l0 (([] : List (S59))) false 0 a1_0 a1_1 a1_2 a1_3
set_option maxHeartbeats 8000000 in
set_option maxRecDepth 100000 in
theorem aR_.calls (k : Nat) (A0 : Option Addr) (c0 : Nat) (l0 : List (S59)) (a1_0 : ByteArray) (a1_1 : ByteArray) (a1_2 : Int) (a1_3 : Int) (r : List (S59)) (w : World) (hr0 : Kd.C k59 w A0 l0.length l0) (hc0 : l0.length ≤ c0) (h : aR_.f k l0 a1_0 a1_1 a1_2 a1_3 = some r) :
  Calls Tryd.prog 51 #[.slice A0 l0.length c0, .agg #[.string a1_0, .string a1_1, .int .i64 a1_2, .int .i64 a1_3]] w fun e w' => ∃ v0_ : Value, e = .returned (v0_) ∧ Kd.R k59 59 w' w.heap.size (fun _ => True) v0_ r ∧ Below w.heap.size w w' := by
 have hu59 := Tryd.underlying59
 have HR0 := Aside0.mk hr0
 have HC0 := Aside0.mk hc0
 clear hr0 hc0
 have HB := Aside0.mk (Below.refl w.heap.size w)
 have H : (aR_.l0 k l0 (([] : List (S59))) false 0 a1_0 a1_1 a1_2 a1_3) = some r := h
 clear h
 obtain ⟨y102, hy102⟩ : ∃ y_ : List (S59), y_ = (([] : List (S59))) := ⟨_, rfl⟩
 replace H : (aR_.l0 k l0 y102 false 0 a1_0 a1_1 a1_2 a1_3) = some r := by first | (rw [hy102]; with_reducible exact H) | (have H2_ := (Option.bind_some _ _).symm.trans H; rw [hy102]; with_reducible exact H2_) | (have H2_ := (Option.bind_some _ _).symm.trans H; with_reducible exact H2_) | with_reducible exact H | (rw [hy102]; exact H) | exact H
 have Ny102 := Aside0.mk hy102
 clear hy102
 have H' := Aside0.mk H
 clear H
 go_enter Tryd.func51, Tryd.ntmps51
 go_wp2_with (first | ((with_reducible refine aL_ (N := 3) rfl ?_); refine bz_ ?hg (N := 3) ?hd (cs := #[.string a1_0, .string a1_1, .int .i64 a1_2, .int .i64 a1_3]) (t := 59) ?hr ?_; (case hd => rfl); (case hg => rfl); (case hr => (go_simp; try rfl)); intro gb101 hg w3 hbox hb; have BK101 := Aside0.mk (hbox); have GW101 := Aside0.mk ((by rw [hg]; exact (ag_ (bz HB.out)) : w.heap.size ≤ gb101)); have GE101 := GW101; replace HB := Aside0.mk (ab_ (bz HB.out) hb); clear hb hbox hg) | ((with_reducible refine aL_ (N := 8) rfl ?_); refine Kd.R_lit k59 _ 59 ?hg (N := 8) ?hd (xs := ([] : List (S59))) (inner := []) (ok := fun _ => True) (okp := fun _ => True) ?hr ?hp (fun _ hk => hk) trivial (Below.refl _ _) (Nat.le_refl _) (by simp) ?_; (case hd => rfl); (case hg => rfl); (case hr => (go_simp; try rfl)); (case hp => exact (Reps.none _ _)); intro v103 w4 ho5 hb hg_ hnew_; clear hg_ hnew_; (first | rw [← Ny102.out] at ho5 | (simp only [Int.reduceToNat] at ho5; rw [← Ny102.out] at ho5)); have HO104 := Aside0.mk (Kd.bi_ (Kd.R_newB ho5 (g := gb101) (o := .cells #[.string a1_0, .string a1_1, .int .i64 a1_2, .int .i64 a1_3] 59 (0, 0)) (kz BK101.out)) (ag_ (bq))); replace BK101 := Aside0.mk (aS_ (kz BK101.out) hb); replace HB := Aside0.mk (ab_ (bq) hb); clear hb ho5))
 repeat (go_quiet (first | ((with_reducible refine aL_ (N := 3) rfl ?_); refine bz_ ?hg (N := 3) ?hd (cs := #[.string a1_0, .string a1_1, .int .i64 a1_2, .int .i64 a1_3]) (t := 59) ?hr ?_; (case hd => rfl); (case hg => rfl); (case hr => (go_simp; try rfl)); intro gb101 hg w3 hbox hb; have BK101 := Aside0.mk (hbox); have GW101 := Aside0.mk ((by rw [hg]; exact (ag_ (bz HB.out)) : w.heap.size ≤ gb101)); have GE101 := GW101; replace HB := Aside0.mk (ab_ (bz HB.out) hb); clear hb hbox hg) | ((with_reducible refine aL_ (N := 8) rfl ?_); refine Kd.R_lit k59 _ 59 ?hg (N := 8) ?hd (xs := ([] : List (S59))) (inner := []) (ok := fun _ => True) (okp := fun _ => True) ?hr ?hp (fun _ hk => hk) trivial (Below.refl _ _) (Nat.le_refl _) (by simp) ?_; (case hd => rfl); (case hg => rfl); (case hr => (go_simp; try rfl)); (case hp => exact (Reps.none _ _)); intro v103 w4 ho5 hb hg_ hnew_; clear hg_ hnew_; (first | rw [← Ny102.out] at ho5 | (simp only [Int.reduceToNat] at ho5; rw [← Ny102.out] at ho5)); have HO104 := Aside0.mk (Kd.bi_ (Kd.R_newB ho5 (g := gb101) (o := .cells #[.string a1_0, .string a1_1, .int .i64 a1_2, .int .i64 a1_3] 59 (0, 0)) (kz BK101.out)) (ag_ (bq))); replace BK101 := Aside0.mk (aS_ (kz BK101.out) hb); replace HB := Aside0.mk (ab_ (bq) hb); clear hb ho5)); try go_wp2_with (first | ((with_reducible refine aL_ (N := 3) rfl ?_); refine bz_ ?hg (N := 3) ?hd (cs := #[.string a1_0, .string a1_1, .int .i64 a1_2, .int .i64 a1_3]) (t := 59) ?hr ?_; (case hd => rfl); (case hg => rfl); (case hr => (go_simp; try rfl)); intro gb101 hg w3 hbox hb; have BK101 := Aside0.mk (hbox); have GW101 := Aside0.mk ((by rw [hg]; exact (ag_ (bz HB.out)) : w.heap.size ≤ gb101)); have GE101 := GW101; replace HB := Aside0.mk (ab_ (bz HB.out) hb); clear hb hbox hg) | ((with_reducible refine aL_ (N := 8) rfl ?_); refine Kd.R_lit k59 _ 59 ?hg (N := 8) ?hd (xs := ([] : List (S59))) (inner := []) (ok := fun _ => True) (okp := fun _ => True) ?hr ?hp (fun _ hk => hk) trivial (Below.refl _ _) (Nat.le_refl _) (by simp) ?_; (case hd => rfl); (case hg => rfl); (case hr => (go_simp; try rfl)); (case hp => exact (Reps.none _ _)); intro v103 w4 ho5 hb hg_ hnew_; clear hg_ hnew_; (first | rw [← Ny102.out] at ho5 | (simp only [Int.reduceToNat] at ho5; rw [← Ny102.out] at ho5)); have HO104 := Aside0.mk (Kd.bi_ (Kd.R_newB ho5 (g := gb101) (o := .cells #[.string a1_0, .string a1_1, .int .i64 a1_2, .int .i64 a1_3] 59 (0, 0)) (kz BK101.out)) (ag_ (bq))); replace BK101 := Aside0.mk (aS_ (kz BK101.out) hb); replace HB := Aside0.mk (ab_ (bq) hb); clear hb ho5)))
 (try simp only [Act.put, lsa_, ls0_, ls1_])
 go_loopg [5, 6, 7] k (fun kq v5 v6 v7 w' => ∃ (x5_1 : List (S59)) (x6_1 : Bool) (x7_1 : Int), v6 = .bool x6_1 ∧ v7 = .int .i64 x7_1 ∧ Aside0 (aR_.l0 kq l0 x5_1 x6_1 x7_1 a1_0 a1_1 a1_2 a1_3 = some r) ∧ Aside0 (kq ≤ k) ∧ Aside0 (Kd.R k59 59 w' w.heap.size (fun k_ => k_ ≠ gb101) v5 x5_1) ∧ Aside0 (w'.heap[gb101]? = some (.cells #[.string a1_0, .string a1_1, .int .i64 a1_2, .int .i64 a1_3] 59 (0, 0))) ∧ Aside0 (Below w.heap.size w w'))
 case atStart => exact ⟨(y102), (false), (0), (by first | rfl | (simp; done) | (simp [*]; done)), (by first | rfl | (simp; done) | (simp [*]; done)), H', ⟨Nat.le_refl _⟩, ⟨rz (Kd.aT_ HO104.out (fun _ hk => hk.2))⟩, ⟨by (with_reducible repeat (first | refine cw_ ?_ _ | refine cc_ ?_ | refine cv_ ?_ _)); exact BK101.out⟩, ⟨bq⟩⟩
 case round =>
  clear H'
  obtain ⟨x5_1, x6_1, x7_1, rfl, rfl, HA, HK1, HO_5, BK101, HB⟩ := hrel
  cases gk with
  | zero => exact absurd HA.out (by simp [aR_.l0])
  | succ k1 =>
   have H := HA.out
   clear HA
   simp only [aR_.l0] at H
   by_cases c6 : x7_1 < (l0.length : Int)
   rotate_left
   ·rw [if_neg c6] at H
    have c6b0 : decide (x7_1 < (l0.length : Int)) = false := decide_eq_false c6
    clear c6
    by_cases c29 : x6_1 = true
    rotate_left
    ·replace c29 := Bool.eq_false_iff.mpr c29
     subst c29
     have H1 : (if x5_1.length < 2932031007402 then (some (x5_1 ++ [(⟨a1_0, (⟨a1_1, a1_2, a1_3⟩ : S57)⟩ : S59)])) else (none)) = some r := by rw [if_neg (show ¬ (false = true) by decide)] at H; exact H
     clear H
     have H := H1
     clear H1
     by_cases c30 : x5_1.length < 2932031007402
     rotate_left
     ·rw [if_neg c30] at H
      exact absurd H (by simp)
     rw [if_pos c30] at H
     have LMc30 := Aside0.mk c30
     clear c30
     obtain ⟨y105, hy105⟩ : ∃ y_ : List (S59), y_ = (x5_1 ++ [(⟨a1_0, (⟨a1_1, a1_2, a1_3⟩ : S57)⟩ : S59)]) := ⟨_, rfl⟩
     replace H : (some y105) = some r := by first | (rw [hy105]; with_reducible exact H) | (have H2_ := (Option.bind_some _ _).symm.trans H; rw [hy105]; with_reducible exact H2_) | (have H2_ := (Option.bind_some _ _).symm.trans H; with_reducible exact H2_) | with_reducible exact H | (rw [hy105]; exact H) | exact H
     have Ny105 := Aside0.mk hy105
     clear hy105
     obtain rfl := Option.some.inj H
     obtain ⟨hcz31_0, hcz31_1, hcz31_2, hcz31_3⟩ := cz4_ BK101.out
     obtain ⟨hfz31_0, hfz31_1, hfz31_2, hfz31_3⟩ := fz4_ BK101.out
     go_wp2_with (first | ((with_reducible refine bs_ (b := .append) (xs := #[.tmp 48, .tmp 50]) rfl ?_); at_builtin; refine Kd.cJ_ k59 (w0 := w) w.heap.size rfl (.tmp 48) (.tmp 50) 26 59 (.agg #[(.string ⟨#[]⟩), (.string ⟨#[]⟩), (.int .i64 0), (.int .i64 0)]) 48 rfl Tryd.underlying26 dm_ rfl (by decide) (by omega) u5 x5_1 (⟨a1_0, (⟨a1_1, a1_2, a1_3⟩ : S57)⟩ : S59) [.string a1_0, .string a1_1, .int .i64 a1_2, .int .i64 a1_3] (fun k_ => k_ ≠ gb101) (fun _ => False) rfl rfl ?aP (fun _ hk => hk.elim) ?aF ?aO ?aB ?aS ?aL ?_; (case aP => exact cR_ _ _ _ (⟨a1_0, (⟨a1_1, a1_2, a1_3⟩ : S57)⟩ : S59)); (case aB => exact (bq)); (case aF => exact (fun k_ hk => Kd.dD_ (g := gb101) (o := .cells #[.string a1_0, .string a1_1, .int .i64 a1_2, .int .i64 a1_3] 59 (0, 0)) (kz BK101.out) k_ hk)); (case aO => exact (rz HO_5.out)); (case aS => exact (ag_ (bq))); (case aL => have := LMc30.out; omega); intro v106 w32 ho hb hg hat; rw [← Ny105.out] at ho; replace BK101 := Aside0.mk (ce_ (g := gb101) (o := .cells #[.string a1_0, .string a1_1, .int .i64 a1_2, .int .i64 a1_3] 59 (0, 0)) (kz BK101.out) hg (Kd.R_away HO_5.out (fun _ hk => hk))); replace HB := Aside0.mk (hb); have HO107 := Aside0.mk (ho); clear HO_5; clear ho hb hg hat))
     repeat (go_quiet (first | ((with_reducible refine bs_ (b := .append) (xs := #[.tmp 48, .tmp 50]) rfl ?_); at_builtin; refine Kd.cJ_ k59 (w0 := w) w.heap.size rfl (.tmp 48) (.tmp 50) 26 59 (.agg #[(.string ⟨#[]⟩), (.string ⟨#[]⟩), (.int .i64 0), (.int .i64 0)]) 48 rfl Tryd.underlying26 dm_ rfl (by decide) (by omega) u5 x5_1 (⟨a1_0, (⟨a1_1, a1_2, a1_3⟩ : S57)⟩ : S59) [.string a1_0, .string a1_1, .int .i64 a1_2, .int .i64 a1_3] (fun k_ => k_ ≠ gb101) (fun _ => False) rfl rfl ?aP (fun _ hk => hk.elim) ?aF ?aO ?aB ?aS ?aL ?_; (case aP => exact cR_ _ _ _ (⟨a1_0, (⟨a1_1, a1_2, a1_3⟩ : S57)⟩ : S59)); (case aB => exact (bq)); (case aF => exact (fun k_ hk => Kd.dD_ (g := gb101) (o := .cells #[.string a1_0, .string a1_1, .int .i64 a1_2, .int .i64 a1_3] 59 (0, 0)) (kz BK101.out) k_ hk)); (case aO => exact (rz HO_5.out)); (case aS => exact (ag_ (bq))); (case aL => have := LMc30.out; omega); intro v106 w32 ho hb hg hat; rw [← Ny105.out] at ho; replace BK101 := Aside0.mk (ce_ (g := gb101) (o := .cells #[.string a1_0, .string a1_1, .int .i64 a1_2, .int .i64 a1_3] 59 (0, 0)) (kz BK101.out) hg (Kd.R_away HO_5.out (fun _ hk => hk))); replace HB := Aside0.mk (hb); have HO107 := Aside0.mk (ho); clear HO_5; clear ho hb hg hat)); try go_wp2_with (first | ((with_reducible refine bs_ (b := .append) (xs := #[.tmp 48, .tmp 50]) rfl ?_); at_builtin; refine Kd.cJ_ k59 (w0 := w) w.heap.size rfl (.tmp 48) (.tmp 50) 26 59 (.agg #[(.string ⟨#[]⟩), (.string ⟨#[]⟩), (.int .i64 0), (.int .i64 0)]) 48 rfl Tryd.underlying26 dm_ rfl (by decide) (by omega) u5 x5_1 (⟨a1_0, (⟨a1_1, a1_2, a1_3⟩ : S57)⟩ : S59) [.string a1_0, .string a1_1, .int .i64 a1_2, .int .i64 a1_3] (fun k_ => k_ ≠ gb101) (fun _ => False) rfl rfl ?aP (fun _ hk => hk.elim) ?aF ?aO ?aB ?aS ?aL ?_; (case aP => exact cR_ _ _ _ (⟨a1_0, (⟨a1_1, a1_2, a1_3⟩ : S57)⟩ : S59)); (case aB => exact (bq)); (case aF => exact (fun k_ hk => Kd.dD_ (g := gb101) (o := .cells #[.string a1_0, .string a1_1, .int .i64 a1_2, .int .i64 a1_3] 59 (0, 0)) (kz BK101.out) k_ hk)); (case aO => exact (rz HO_5.out)); (case aS => exact (ag_ (bq))); (case aL => have := LMc30.out; omega); intro v106 w32 ho hb hg hat; rw [← Ny105.out] at ho; replace BK101 := Aside0.mk (ce_ (g := gb101) (o := .cells #[.string a1_0, .string a1_1, .int .i64 a1_2, .int .i64 a1_3] 59 (0, 0)) (kz BK101.out) hg (Kd.R_away HO_5.out (fun _ hk => hk))); replace HB := Aside0.mk (hb); have HO107 := Aside0.mk (ho); clear HO_5; clear ho hb hg hat)))
     go_ret
     exact ⟨_, by first | rfl | (simp [*, ap_, ao_] <;> rfl), rz (Kd.aT_ HO107.out (fun _ hk => trivial)), bq⟩
    subst c29
    have H1 : (some x5_1) = some r := by rw [if_pos rfl] at H; exact H
    clear H
    have H := H1
    clear H1
    obtain rfl := Option.some.inj H
    go_wp2
    repeat (go_quiet (fail); try go_wp2)
    go_ret
    exact ⟨_, by first | rfl | (simp [*, ap_, ao_] <;> rfl), rz (Kd.aT_ HO_5.out (fun _ hk => trivial)), bq⟩
   rw [if_pos c6] at H
   have c6b0 : decide (x7_1 < (l0.length : Int)) = true := decide_eq_true c6
   clear c6
   have HC7 := Aside0.mk H
   clear H
   go_upto_region 6 with (fail)
   repeat (go_quiet (fail); go_upto_region 6 with (fail))
   go_cut [26] (fun v26 wc => ∃ (kq : Nat) (x26_6 : Bool), v26 = .bool x26_6 ∧ Aside0 (aR_.j1 kq l0 x5_1 x6_1 x7_1 x26_6 a1_0 a1_1 a1_2 a1_3 = some r) ∧ Aside0 (kq ≤ k1) ∧ Aside0 (Kd.R k59 59 wc w.heap.size (fun k_ => k_ ≠ gb101) u5 x5_1) ∧ Aside0 (wc.heap[gb101]? = some (.cells #[.string a1_0, .string a1_1, .int .i64 a1_2, .int .i64 a1_3] 59 (0, 0))) ∧ Aside0 (Below w.heap.size w wc))
   case first =>
    have H := HC7.out
    clear HC7
    by_cases c8 : x6_1 = true
    rotate_left
    ·replace c8 := Bool.eq_false_iff.mpr c8
     subst c8
     have H1 : (if 0 ≤ x7_1 then (aR_.j1 k1 l0 x5_1 false x7_1 (!(Op.bytesLess (((aa_ l0 x7_1).f0).toList) a1_0.toList)) a1_0 a1_1 a1_2 a1_3) else (none)) = some r := by rw [if_neg (show ¬ (false = true) by decide)] at H; exact H
     clear H
     have H := H1
     clear H1
     by_cases c9 : 0 ≤ x7_1
     rotate_left
     ·rw [if_neg c9] at H
      exact absurd H (by simp)
     rw [if_pos c9] at H
     have c9b0 : decide (0 ≤ x7_1) = true := decide_eq_true c9
     clear c9
     (first | rw [c9b0] | (simp only [i64_w, i32_w]; rw [c9b0]) | (simp only [c9b1, Bool.not_true, Bool.not_false]) | (simp only [c9b0, Bool.not_true, Bool.not_false]) | skip)
     have H' := Aside0.mk H
     clear H
     have p108 : 0 ≤ (x7_1 : Int) := of_decide_eq_true (by assumption)
     have q108 : x7_1 < (l0.length : Int) := of_decide_eq_true (by assumption)
     obtain ⟨ad108, e108, hx108_0, hx108_1, hx108_2, hx108_3⟩ := cH_ HR0.out x7_1 p108 q108
     cases e108
     replace hx108_0 := bu_ HB.out hx108_0
     replace hx108_1 := bu_ HB.out hx108_1
     replace hx108_2 := bu_ HB.out hx108_2
     replace hx108_3 := bu_ HB.out hx108_3
     replace p108 := eq_true p108
     replace q108 := eq_true q108
     obtain ⟨hcz10_0, hcz10_1, hcz10_2, hcz10_3⟩ := cz4_ BK101.out
     obtain ⟨hfz10_0, hfz10_1, hfz10_2, hfz10_3⟩ := fz4_ BK101.out
     go_wp2
     repeat (go_quiet (fail); try go_wp2)
     go_meet
     case rel => exact ⟨_, (!(Op.bytesLess (((aa_ l0 x7_1).f0).toList) a1_0.toList)), (by first | rfl | (simp; done) | (simp [*]; done)), H', ⟨by have := HK1.out; first | omega | exact Nat.le_refl _⟩, ⟨rz HO_5.out⟩, ⟨by (with_reducible repeat (first | refine cw_ ?_ _ | refine cc_ ?_ | refine cv_ ?_ _)); exact BK101.out⟩, ⟨bq⟩⟩
    subst c8
    have H1 : (aR_.j1 k1 l0 x5_1 true x7_1 false a1_0 a1_1 a1_2 a1_3) = some r := by rw [if_pos rfl] at H; exact H
    clear H
    have H := H1
    clear H1
    have H' := Aside0.mk H
    clear H
    go_wp2
    repeat (go_quiet (fail); try go_wp2)
    go_meet
    case rel => exact ⟨_, (false), (by first | rfl | (simp; done) | (simp [*]; done)), H', ⟨by have := HK1.out; first | omega | exact Nat.le_refl _⟩, ⟨rz HO_5.out⟩, ⟨by (with_reducible repeat (first | refine cw_ ?_ _ | refine cc_ ?_ | refine cv_ ?_ _)); exact BK101.out⟩, ⟨bq⟩⟩
   case rest =>
    clear HC7
    obtain ⟨kq, x26_6, rfl, HA, HJ6, HO_5, BK101, HB⟩ := hcut
    cases kq with
    | zero => exact absurd HA.out (by simp [aR_.j1])
    | succ kj6 =>
     have H := HA.out
     clear HA
     simp only [aR_.j1] at H
     by_cases c11 : x26_6 = true
     rotate_left
     ·replace c11 := Bool.eq_false_iff.mpr c11
      subst c11
      have H1 : (if 0 ≤ x7_1 then (if x7_1 < (l0.length : Int) then (if ((aa_ l0 x7_1).f0).toList = a1_0.toList then (aR_.l0 kj6 l0 x5_1 x6_1 (wrap64 (x7_1 + 1)) a1_0 a1_1 a1_2 a1_3) else (if x5_1.length < 2932031007402 then (aR_.l0 kj6 l0 (x5_1 ++ [(⟨(aa_ l0 x7_1).f0, (⟨(aa_ l0 x7_1).f1.f0, (aa_ l0 x7_1).f1.f1, (aa_ l0 x7_1).f1.f2⟩ : S57)⟩ : S59)]) x6_1 (wrap64 (x7_1 + 1)) a1_0 a1_1 a1_2 a1_3) else (none))) else (none)) else (none)) = some r := by rw [if_neg (show ¬ (false = true) by decide)] at H; exact H
      clear H
      have H := H1
      clear H1
      by_cases c22 : 0 ≤ x7_1
      rotate_left
      ·rw [if_neg c22] at H
       exact absurd H (by simp)
      rw [if_pos c22] at H
      have c22b0 : decide (0 ≤ x7_1) = true := decide_eq_true c22
      clear c22
      by_cases c23 : x7_1 < (l0.length : Int)
      rotate_left
      ·rw [if_neg c23] at H
       exact absurd H (by simp)
      rw [if_pos c23] at H
      have c23b0 : decide (x7_1 < (l0.length : Int)) = true := decide_eq_true c23
      clear c23
      by_cases c24 : ((aa_ l0 x7_1).f0).toList = a1_0.toList
      rotate_left
      ·rw [if_neg c24] at H
       have c24b0 : (((aa_ l0 x7_1).f0).toList == a1_0.toList) = false := beq_eq_false_iff_ne.mpr c24
       have c24b1 : (((aa_ l0 x7_1).f0).toList != a1_0.toList) = true := bne_iff_ne.mpr c24
       by_cases c26 : x5_1.length < 2932031007402
       rotate_left
       ·rw [if_neg c26] at H
        exact absurd H (by simp)
       rw [if_pos c26] at H
       have LMc26 := Aside0.mk c26
       clear c26
       obtain ⟨y119, hy119⟩ : ∃ y_ : List (S59), y_ = (x5_1 ++ [(⟨(aa_ l0 x7_1).f0, (⟨(aa_ l0 x7_1).f1.f0, (aa_ l0 x7_1).f1.f1, (aa_ l0 x7_1).f1.f2⟩ : S57)⟩ : S59)]) := ⟨_, rfl⟩
       replace H : (aR_.l0 kj6 l0 y119 x6_1 (wrap64 (x7_1 + 1)) a1_0 a1_1 a1_2 a1_3) = some r := by first | (rw [hy119]; with_reducible exact H) | (have H2_ := (Option.bind_some _ _).symm.trans H; rw [hy119]; with_reducible exact H2_) | (have H2_ := (Option.bind_some _ _).symm.trans H; with_reducible exact H2_) | with_reducible exact H | (rw [hy119]; exact H) | exact H
       have Ny119 := Aside0.mk hy119
       clear hy119
       have H' := Aside0.mk H
       clear H
       have p117 : 0 ≤ (x7_1 : Int) := of_decide_eq_true (by assumption)
       have q117 : x7_1 < (l0.length : Int) := of_decide_eq_true (by assumption)
       obtain ⟨ad117, e117, hx117_0, hx117_1, hx117_2, hx117_3⟩ := cH_ HR0.out x7_1 p117 q117
       cases e117
       replace hx117_0 := bu_ HB.out hx117_0
       replace hx117_1 := bu_ HB.out hx117_1
       replace hx117_2 := bu_ HB.out hx117_2
       replace hx117_3 := bu_ HB.out hx117_3
       replace p117 := eq_true p117
       replace q117 := eq_true q117
       obtain ⟨hcz27_0, hcz27_1, hcz27_2, hcz27_3⟩ := cz4_ BK101.out
       obtain ⟨hfz27_0, hfz27_1, hfz27_2, hfz27_3⟩ := fz4_ BK101.out
       have p118 : 0 ≤ (x7_1 : Int) := of_decide_eq_true (by assumption)
       have q118 : x7_1 < (l0.length : Int) := of_decide_eq_true (by assumption)
       obtain ⟨ad118, e118, hx118_0, hx118_1, hx118_2, hx118_3⟩ := cH_ HR0.out x7_1 p118 q118
       obtain rfl : ad117 = ad118 := (by injection e118)
       replace hx118_0 := bu_ HB.out hx118_0
       replace hx118_1 := bu_ HB.out hx118_1
       replace hx118_2 := bu_ HB.out hx118_2
       replace hx118_3 := bu_ HB.out hx118_3
       replace p118 := eq_true p118
       replace q118 := eq_true q118
       go_wp2_with (first | ((with_reducible refine bs_ (b := .append) (xs := #[.tmp 39, .tmp 44]) rfl ?_); at_builtin; refine Kd.cJ_ k59 (w0 := w) w.heap.size rfl (.tmp 39) (.tmp 44) 26 59 (.agg #[(.string ⟨#[]⟩), (.string ⟨#[]⟩), (.int .i64 0), (.int .i64 0)]) 48 rfl Tryd.underlying26 dm_ rfl (by decide) (by omega) u5 x5_1 (⟨(aa_ l0 x7_1).f0, (⟨(aa_ l0 x7_1).f1.f0, (aa_ l0 x7_1).f1.f1, (aa_ l0 x7_1).f1.f2⟩ : S57)⟩ : S59) [.string ((aa_ l0 x7_1).f0), .string ((aa_ l0 x7_1).f1.f0), .int .i64 ((aa_ l0 x7_1).f1.f1), .int .i64 ((aa_ l0 x7_1).f1.f2)] (fun k_ => k_ ≠ gb101) (fun _ => False) rfl rfl ?aP (fun _ hk => hk.elim) ?aF ?aO ?aB ?aS ?aL ?_; (case aP => exact cR_ _ _ _ (⟨(aa_ l0 x7_1).f0, (⟨(aa_ l0 x7_1).f1.f0, (aa_ l0 x7_1).f1.f1, (aa_ l0 x7_1).f1.f2⟩ : S57)⟩ : S59)); (case aB => exact (bq)); (case aF => exact (fun k_ hk => Kd.dD_ (g := gb101) (o := .cells #[.string a1_0, .string a1_1, .int .i64 a1_2, .int .i64 a1_3] 59 (0, 0)) (kz BK101.out) k_ hk)); (case aO => exact (rz HO_5.out)); (case aS => exact (ag_ (bq))); (case aL => have := LMc26.out; omega); intro v120 w28 ho hb hg hat; rw [← Ny119.out] at ho; replace BK101 := Aside0.mk (ce_ (g := gb101) (o := .cells #[.string a1_0, .string a1_1, .int .i64 a1_2, .int .i64 a1_3] 59 (0, 0)) (kz BK101.out) hg (Kd.R_away HO_5.out (fun _ hk => hk))); replace HB := Aside0.mk (hb); have HO121 := Aside0.mk (ho); clear HO_5; clear ho hb hg hat))
       repeat (go_quiet (first | ((with_reducible refine bs_ (b := .append) (xs := #[.tmp 39, .tmp 44]) rfl ?_); at_builtin; refine Kd.cJ_ k59 (w0 := w) w.heap.size rfl (.tmp 39) (.tmp 44) 26 59 (.agg #[(.string ⟨#[]⟩), (.string ⟨#[]⟩), (.int .i64 0), (.int .i64 0)]) 48 rfl Tryd.underlying26 dm_ rfl (by decide) (by omega) u5 x5_1 (⟨(aa_ l0 x7_1).f0, (⟨(aa_ l0 x7_1).f1.f0, (aa_ l0 x7_1).f1.f1, (aa_ l0 x7_1).f1.f2⟩ : S57)⟩ : S59) [.string ((aa_ l0 x7_1).f0), .string ((aa_ l0 x7_1).f1.f0), .int .i64 ((aa_ l0 x7_1).f1.f1), .int .i64 ((aa_ l0 x7_1).f1.f2)] (fun k_ => k_ ≠ gb101) (fun _ => False) rfl rfl ?aP (fun _ hk => hk.elim) ?aF ?aO ?aB ?aS ?aL ?_; (case aP => exact cR_ _ _ _ (⟨(aa_ l0 x7_1).f0, (⟨(aa_ l0 x7_1).f1.f0, (aa_ l0 x7_1).f1.f1, (aa_ l0 x7_1).f1.f2⟩ : S57)⟩ : S59)); (case aB => exact (bq)); (case aF => exact (fun k_ hk => Kd.dD_ (g := gb101) (o := .cells #[.string a1_0, .string a1_1, .int .i64 a1_2, .int .i64 a1_3] 59 (0, 0)) (kz BK101.out) k_ hk)); (case aO => exact (rz HO_5.out)); (case aS => exact (ag_ (bq))); (case aL => have := LMc26.out; omega); intro v120 w28 ho hb hg hat; rw [← Ny119.out] at ho; replace BK101 := Aside0.mk (ce_ (g := gb101) (o := .cells #[.string a1_0, .string a1_1, .int .i64 a1_2, .int .i64 a1_3] 59 (0, 0)) (kz BK101.out) hg (Kd.R_away HO_5.out (fun _ hk => hk))); replace HB := Aside0.mk (hb); have HO121 := Aside0.mk (ho); clear HO_5; clear ho hb hg hat)); try go_wp2_with (first | ((with_reducible refine bs_ (b := .append) (xs := #[.tmp 39, .tmp 44]) rfl ?_); at_builtin; refine Kd.cJ_ k59 (w0 := w) w.heap.size rfl (.tmp 39) (.tmp 44) 26 59 (.agg #[(.string ⟨#[]⟩), (.string ⟨#[]⟩), (.int .i64 0), (.int .i64 0)]) 48 rfl Tryd.underlying26 dm_ rfl (by decide) (by omega) u5 x5_1 (⟨(aa_ l0 x7_1).f0, (⟨(aa_ l0 x7_1).f1.f0, (aa_ l0 x7_1).f1.f1, (aa_ l0 x7_1).f1.f2⟩ : S57)⟩ : S59) [.string ((aa_ l0 x7_1).f0), .string ((aa_ l0 x7_1).f1.f0), .int .i64 ((aa_ l0 x7_1).f1.f1), .int .i64 ((aa_ l0 x7_1).f1.f2)] (fun k_ => k_ ≠ gb101) (fun _ => False) rfl rfl ?aP (fun _ hk => hk.elim) ?aF ?aO ?aB ?aS ?aL ?_; (case aP => exact cR_ _ _ _ (⟨(aa_ l0 x7_1).f0, (⟨(aa_ l0 x7_1).f1.f0, (aa_ l0 x7_1).f1.f1, (aa_ l0 x7_1).f1.f2⟩ : S57)⟩ : S59)); (case aB => exact (bq)); (case aF => exact (fun k_ hk => Kd.dD_ (g := gb101) (o := .cells #[.string a1_0, .string a1_1, .int .i64 a1_2, .int .i64 a1_3] 59 (0, 0)) (kz BK101.out) k_ hk)); (case aO => exact (rz HO_5.out)); (case aS => exact (ag_ (bq))); (case aL => have := LMc26.out; omega); intro v120 w28 ho hb hg hat; rw [← Ny119.out] at ho; replace BK101 := Aside0.mk (ce_ (g := gb101) (o := .cells #[.string a1_0, .string a1_1, .int .i64 a1_2, .int .i64 a1_3] 59 (0, 0)) (kz BK101.out) hg (Kd.R_away HO_5.out (fun _ hk => hk))); replace HB := Aside0.mk (hb); have HO121 := Aside0.mk (ho); clear HO_5; clear ho hb hg hat)))
       go_roundg kj6
       case measure => have := HK1.out; have := HJ6.out; omega
       case rel => exact ⟨(y119), (x6_1), (wrap64 (x7_1 + 1)), (by first | rfl | (simp; done) | (simp [*]; done)), (by first | rfl | (simp; done) | (simp [*]; done)), H', ⟨by have := HK1.out; have := HJ6.out; omega⟩, ⟨rz HO121.out⟩, ⟨by (with_reducible repeat (first | refine cw_ ?_ _ | refine cc_ ?_ | refine cv_ ?_ _)); exact BK101.out⟩, ⟨bq⟩⟩
      rw [if_pos c24] at H
      have c24b0 : (((aa_ l0 x7_1).f0).toList == a1_0.toList) = true := beq_iff_eq.mpr c24
      have c24b1 : (((aa_ l0 x7_1).f0).toList != a1_0.toList) = false := bne_eq_false_iff_eq.mpr c24
      clear c24
      have H' := Aside0.mk H
      clear H
      have p117 : 0 ≤ (x7_1 : Int) := of_decide_eq_true (by assumption)
      have q117 : x7_1 < (l0.length : Int) := of_decide_eq_true (by assumption)
      obtain ⟨ad117, e117, hx117_0, hx117_1, hx117_2, hx117_3⟩ := cH_ HR0.out x7_1 p117 q117
      cases e117
      replace hx117_0 := bu_ HB.out hx117_0
      replace hx117_1 := bu_ HB.out hx117_1
      replace hx117_2 := bu_ HB.out hx117_2
      replace hx117_3 := bu_ HB.out hx117_3
      replace p117 := eq_true p117
      replace q117 := eq_true q117
      obtain ⟨hcz25_0, hcz25_1, hcz25_2, hcz25_3⟩ := cz4_ BK101.out
      obtain ⟨hfz25_0, hfz25_1, hfz25_2, hfz25_3⟩ := fz4_ BK101.out
      go_wp2
      repeat (go_quiet (fail); try go_wp2)
      go_roundg kj6
      case measure => have := HK1.out; have := HJ6.out; omega
      case rel => exact ⟨(x5_1), (x6_1), (wrap64 (x7_1 + 1)), (by first | rfl | (simp; done) | (simp [*]; done)), (by first | rfl | (simp; done) | (simp [*]; done)), H', ⟨by have := HK1.out; have := HJ6.out; omega⟩, ⟨rz HO_5.out⟩, ⟨by (with_reducible repeat (first | refine cw_ ?_ _ | refine cc_ ?_ | refine cv_ ?_ _)); exact BK101.out⟩, ⟨bq⟩⟩
     subst c11
     have H1 : (if x5_1.length < 2932031007402 then ((some (x5_1 ++ [(⟨a1_0, (⟨a1_1, a1_2, a1_3⟩ : S57)⟩ : S59)] : List (S59))).bind fun y109 => (if 0 ≤ x7_1 then (if x7_1 < (l0.length : Int) then (if ((aa_ l0 x7_1).f0).toList = a1_0.toList then (aR_.l0 kj6 l0 y109 true (wrap64 (x7_1 + 1)) a1_0 a1_1 a1_2 a1_3) else (if y109.length < 2932031007402 then (aR_.l0 kj6 l0 (y109 ++ [(⟨(aa_ l0 x7_1).f0, (⟨(aa_ l0 x7_1).f1.f0, (aa_ l0 x7_1).f1.f1, (aa_ l0 x7_1).f1.f2⟩ : S57)⟩ : S59)]) true (wrap64 (x7_1 + 1)) a1_0 a1_1 a1_2 a1_3) else (none))) else (none)) else (none))) else (none)) = some r := by rw [if_pos rfl] at H; exact H
     clear H
     have H := H1
     clear H1
     by_cases c12 : x5_1.length < 2932031007402
     rotate_left
     ·rw [if_neg c12] at H
      exact absurd H (by simp)
     rw [if_pos c12] at H
     have LMc12 := Aside0.mk c12
     clear c12
     obtain ⟨y109, hy109⟩ : ∃ y_ : List (S59), y_ = (x5_1 ++ [(⟨a1_0, (⟨a1_1, a1_2, a1_3⟩ : S57)⟩ : S59)]) := ⟨_, rfl⟩
     replace H : (if 0 ≤ x7_1 then (if x7_1 < (l0.length : Int) then (if ((aa_ l0 x7_1).f0).toList = a1_0.toList then (aR_.l0 kj6 l0 y109 true (wrap64 (x7_1 + 1)) a1_0 a1_1 a1_2 a1_3) else (if y109.length < 2932031007402 then (aR_.l0 kj6 l0 (y109 ++ [(⟨(aa_ l0 x7_1).f0, (⟨(aa_ l0 x7_1).f1.f0, (aa_ l0 x7_1).f1.f1, (aa_ l0 x7_1).f1.f2⟩ : S57)⟩ : S59)]) true (wrap64 (x7_1 + 1)) a1_0 a1_1 a1_2 a1_3) else (none))) else (none)) else (none)) = some r := by first | (rw [hy109]; with_reducible exact H) | (have H2_ := (Option.bind_some _ _).symm.trans H; rw [hy109]; with_reducible exact H2_) | (have H2_ := (Option.bind_some _ _).symm.trans H; with_reducible exact H2_) | with_reducible exact H | (rw [hy109]; exact H) | exact H
     have Ny109 := Aside0.mk hy109
     clear hy109
     by_cases c13 : 0 ≤ x7_1
     rotate_left
     ·rw [if_neg c13] at H
      exact absurd H (by simp)
     rw [if_pos c13] at H
     have c13b0 : decide (0 ≤ x7_1) = true := decide_eq_true c13
     clear c13
     by_cases c14 : x7_1 < (l0.length : Int)
     rotate_left
     ·rw [if_neg c14] at H
      exact absurd H (by simp)
     rw [if_pos c14] at H
     have c14b0 : decide (x7_1 < (l0.length : Int)) = true := decide_eq_true c14
     clear c14
     have HC15 := Aside0.mk H
     clear H
     obtain ⟨hcz16_0, hcz16_1, hcz16_2, hcz16_3⟩ := cz4_ BK101.out
     obtain ⟨hfz16_0, hfz16_1, hfz16_2, hfz16_3⟩ := fz4_ BK101.out
     go_upto_if 38 with (first | ((with_reducible refine bs_ (b := .append) (xs := #[.tmp 27, .tmp 29]) rfl ?_); at_builtin; refine Kd.cJ_ k59 (w0 := w) w.heap.size rfl (.tmp 27) (.tmp 29) 26 59 (.agg #[(.string ⟨#[]⟩), (.string ⟨#[]⟩), (.int .i64 0), (.int .i64 0)]) 48 rfl Tryd.underlying26 dm_ rfl (by decide) (by omega) u5 x5_1 (⟨a1_0, (⟨a1_1, a1_2, a1_3⟩ : S57)⟩ : S59) [.string a1_0, .string a1_1, .int .i64 a1_2, .int .i64 a1_3] (fun k_ => k_ ≠ gb101) (fun _ => False) rfl rfl ?aP (fun _ hk => hk.elim) ?aF ?aO ?aB ?aS ?aL ?_; (case aP => exact cR_ _ _ _ (⟨a1_0, (⟨a1_1, a1_2, a1_3⟩ : S57)⟩ : S59)); (case aB => exact (bq)); (case aF => exact (fun k_ hk => Kd.dD_ (g := gb101) (o := .cells #[.string a1_0, .string a1_1, .int .i64 a1_2, .int .i64 a1_3] 59 (0, 0)) (kz BK101.out) k_ hk)); (case aO => exact (rz HO_5.out)); (case aS => exact (ag_ (bq))); (case aL => have := LMc12.out; omega); intro v110 w17 ho hb hg hat; rw [← Ny109.out] at ho; replace BK101 := Aside0.mk (ce_ (g := gb101) (o := .cells #[.string a1_0, .string a1_1, .int .i64 a1_2, .int .i64 a1_3] 59 (0, 0)) (kz BK101.out) hg (Kd.R_away HO_5.out (fun _ hk => hk))); replace HB := Aside0.mk (hb); have HO111 := Aside0.mk (ho); clear HO_5; clear ho hb hg hat; have p112 : 0 ≤ (x7_1 : Int) := of_decide_eq_true (by assumption); have q112 : x7_1 < (l0.length : Int) := of_decide_eq_true (by assumption); obtain ⟨ad112, e112, hx112_0, hx112_1, hx112_2, hx112_3⟩ := cH_ HR0.out x7_1 p112 q112; cases e112; replace hx112_0 := bu_ HB.out hx112_0; replace hx112_1 := bu_ HB.out hx112_1; replace hx112_2 := bu_ HB.out hx112_2; replace hx112_3 := bu_ HB.out hx112_3; replace p112 := eq_true p112; replace q112 := eq_true q112; obtain ⟨hcz18_0, hcz18_1, hcz18_2, hcz18_3⟩ := cz4_ BK101.out; obtain ⟨hfz18_0, hfz18_1, hfz18_2, hfz18_3⟩ := fz4_ BK101.out))
     repeat (go_quiet (first | ((with_reducible refine bs_ (b := .append) (xs := #[.tmp 27, .tmp 29]) rfl ?_); at_builtin; refine Kd.cJ_ k59 (w0 := w) w.heap.size rfl (.tmp 27) (.tmp 29) 26 59 (.agg #[(.string ⟨#[]⟩), (.string ⟨#[]⟩), (.int .i64 0), (.int .i64 0)]) 48 rfl Tryd.underlying26 dm_ rfl (by decide) (by omega) u5 x5_1 (⟨a1_0, (⟨a1_1, a1_2, a1_3⟩ : S57)⟩ : S59) [.string a1_0, .string a1_1, .int .i64 a1_2, .int .i64 a1_3] (fun k_ => k_ ≠ gb101) (fun _ => False) rfl rfl ?aP (fun _ hk => hk.elim) ?aF ?aO ?aB ?aS ?aL ?_; (case aP => exact cR_ _ _ _ (⟨a1_0, (⟨a1_1, a1_2, a1_3⟩ : S57)⟩ : S59)); (case aB => exact (bq)); (case aF => exact (fun k_ hk => Kd.dD_ (g := gb101) (o := .cells #[.string a1_0, .string a1_1, .int .i64 a1_2, .int .i64 a1_3] 59 (0, 0)) (kz BK101.out) k_ hk)); (case aO => exact (rz HO_5.out)); (case aS => exact (ag_ (bq))); (case aL => have := LMc12.out; omega); intro v110 w17 ho hb hg hat; rw [← Ny109.out] at ho; replace BK101 := Aside0.mk (ce_ (g := gb101) (o := .cells #[.string a1_0, .string a1_1, .int .i64 a1_2, .int .i64 a1_3] 59 (0, 0)) (kz BK101.out) hg (Kd.R_away HO_5.out (fun _ hk => hk))); replace HB := Aside0.mk (hb); have HO111 := Aside0.mk (ho); clear HO_5; clear ho hb hg hat; have p112 : 0 ≤ (x7_1 : Int) := of_decide_eq_true (by assumption); have q112 : x7_1 < (l0.length : Int) := of_decide_eq_true (by assumption); obtain ⟨ad112, e112, hx112_0, hx112_1, hx112_2, hx112_3⟩ := cH_ HR0.out x7_1 p112 q112; cases e112; replace hx112_0 := bu_ HB.out hx112_0; replace hx112_1 := bu_ HB.out hx112_1; replace hx112_2 := bu_ HB.out hx112_2; replace hx112_3 := bu_ HB.out hx112_3; replace p112 := eq_true p112; replace q112 := eq_true q112; obtain ⟨hcz18_0, hcz18_1, hcz18_2, hcz18_3⟩ := cz4_ BK101.out; obtain ⟨hfz18_0, hfz18_1, hfz18_2, hfz18_3⟩ := fz4_ BK101.out)); go_upto_if 38 with (first | ((with_reducible refine bs_ (b := .append) (xs := #[.tmp 27, .tmp 29]) rfl ?_); at_builtin; refine Kd.cJ_ k59 (w0 := w) w.heap.size rfl (.tmp 27) (.tmp 29) 26 59 (.agg #[(.string ⟨#[]⟩), (.string ⟨#[]⟩), (.int .i64 0), (.int .i64 0)]) 48 rfl Tryd.underlying26 dm_ rfl (by decide) (by omega) u5 x5_1 (⟨a1_0, (⟨a1_1, a1_2, a1_3⟩ : S57)⟩ : S59) [.string a1_0, .string a1_1, .int .i64 a1_2, .int .i64 a1_3] (fun k_ => k_ ≠ gb101) (fun _ => False) rfl rfl ?aP (fun _ hk => hk.elim) ?aF ?aO ?aB ?aS ?aL ?_; (case aP => exact cR_ _ _ _ (⟨a1_0, (⟨a1_1, a1_2, a1_3⟩ : S57)⟩ : S59)); (case aB => exact (bq)); (case aF => exact (fun k_ hk => Kd.dD_ (g := gb101) (o := .cells #[.string a1_0, .string a1_1, .int .i64 a1_2, .int .i64 a1_3] 59 (0, 0)) (kz BK101.out) k_ hk)); (case aO => exact (rz HO_5.out)); (case aS => exact (ag_ (bq))); (case aL => have := LMc12.out; omega); intro v110 w17 ho hb hg hat; rw [← Ny109.out] at ho; replace BK101 := Aside0.mk (ce_ (g := gb101) (o := .cells #[.string a1_0, .string a1_1, .int .i64 a1_2, .int .i64 a1_3] 59 (0, 0)) (kz BK101.out) hg (Kd.R_away HO_5.out (fun _ hk => hk))); replace HB := Aside0.mk (hb); have HO111 := Aside0.mk (ho); clear HO_5; clear ho hb hg hat; have p112 : 0 ≤ (x7_1 : Int) := of_decide_eq_true (by assumption); have q112 : x7_1 < (l0.length : Int) := of_decide_eq_true (by assumption); obtain ⟨ad112, e112, hx112_0, hx112_1, hx112_2, hx112_3⟩ := cH_ HR0.out x7_1 p112 q112; cases e112; replace hx112_0 := bu_ HB.out hx112_0; replace hx112_1 := bu_ HB.out hx112_1; replace hx112_2 := bu_ HB.out hx112_2; replace hx112_3 := bu_ HB.out hx112_3; replace p112 := eq_true p112; replace q112 := eq_true q112; obtain ⟨hcz18_0, hcz18_1, hcz18_2, hcz18_3⟩ := cz4_ BK101.out; obtain ⟨hfz18_0, hfz18_1, hfz18_2, hfz18_3⟩ := fz4_ BK101.out)))
     (try simp only [Act.put, lsa_, ls0_, ls1_])
     have H := HC15.out
     clear HC15
     by_cases c19 : ((aa_ l0 x7_1).f0).toList = a1_0.toList
     rotate_left
     ·rw [if_neg c19] at H
      have c19b0 : (((aa_ l0 x7_1).f0).toList == a1_0.toList) = false := beq_eq_false_iff_ne.mpr c19
      have c19b1 : (((aa_ l0 x7_1).f0).toList != a1_0.toList) = true := bne_iff_ne.mpr c19
      (first | rw [c19b0] | (simp only [i64_w, i32_w]; rw [c19b0]) | (simp only [c19b1, Bool.not_true, Bool.not_false]) | (simp only [c19b0, Bool.not_true, Bool.not_false]) | skip)
      by_cases c20 : y109.length < 2932031007402
      rotate_left
      ·rw [if_neg c20] at H
       exact absurd H (by simp)
      rw [if_pos c20] at H
      have LMc20 := Aside0.mk c20
      clear c20
      obtain ⟨y114, hy114⟩ : ∃ y_ : List (S59), y_ = (y109 ++ [(⟨(aa_ l0 x7_1).f0, (⟨(aa_ l0 x7_1).f1.f0, (aa_ l0 x7_1).f1.f1, (aa_ l0 x7_1).f1.f2⟩ : S57)⟩ : S59)]) := ⟨_, rfl⟩
      replace H : (aR_.l0 kj6 l0 y114 true (wrap64 (x7_1 + 1)) a1_0 a1_1 a1_2 a1_3) = some r := by first | (rw [hy114]; with_reducible exact H) | (have H2_ := (Option.bind_some _ _).symm.trans H; rw [hy114]; with_reducible exact H2_) | (have H2_ := (Option.bind_some _ _).symm.trans H; with_reducible exact H2_) | with_reducible exact H | (rw [hy114]; exact H) | exact H
      have Ny114 := Aside0.mk hy114
      clear hy114
      have H' := Aside0.mk H
      clear H
      have p113 : 0 ≤ (x7_1 : Int) := of_decide_eq_true (by assumption)
      have q113 : x7_1 < (l0.length : Int) := of_decide_eq_true (by assumption)
      obtain ⟨ad113, e113, hx113_0, hx113_1, hx113_2, hx113_3⟩ := cH_ HR0.out x7_1 p113 q113
      obtain rfl : ad112 = ad113 := (by injection e113)
      replace hx113_0 := bu_ HB.out hx113_0
      replace hx113_1 := bu_ HB.out hx113_1
      replace hx113_2 := bu_ HB.out hx113_2
      replace hx113_3 := bu_ HB.out hx113_3
      replace p113 := eq_true p113
      replace q113 := eq_true q113
      go_wp2_with (first | ((with_reducible refine bs_ (b := .append) (xs := #[.tmp 39, .tmp 44]) rfl ?_); at_builtin; refine Kd.cJ_ k59 (w0 := w) w.heap.size rfl (.tmp 39) (.tmp 44) 26 59 (.agg #[(.string ⟨#[]⟩), (.string ⟨#[]⟩), (.int .i64 0), (.int .i64 0)]) 48 rfl Tryd.underlying26 dm_ rfl (by decide) (by omega) v110 y109 (⟨(aa_ l0 x7_1).f0, (⟨(aa_ l0 x7_1).f1.f0, (aa_ l0 x7_1).f1.f1, (aa_ l0 x7_1).f1.f2⟩ : S57)⟩ : S59) [.string ((aa_ l0 x7_1).f0), .string ((aa_ l0 x7_1).f1.f0), .int .i64 ((aa_ l0 x7_1).f1.f1), .int .i64 ((aa_ l0 x7_1).f1.f2)] (fun k_ => k_ ≠ gb101) (fun _ => False) rfl rfl ?aP (fun _ hk => hk.elim) ?aF ?aO ?aB ?aS ?aL ?_; (case aP => exact cR_ _ _ _ (⟨(aa_ l0 x7_1).f0, (⟨(aa_ l0 x7_1).f1.f0, (aa_ l0 x7_1).f1.f1, (aa_ l0 x7_1).f1.f2⟩ : S57)⟩ : S59)); (case aB => exact (bq)); (case aF => exact (fun k_ hk => Kd.dD_ (g := gb101) (o := .cells #[.string a1_0, .string a1_1, .int .i64 a1_2, .int .i64 a1_3] 59 (0, 0)) (kz BK101.out) k_ hk)); (case aO => exact (rz HO111.out)); (case aS => exact (ag_ (bq))); (case aL => have := LMc20.out; omega); intro v115 w21 ho hb hg hat; rw [← Ny114.out] at ho; replace BK101 := Aside0.mk (ce_ (g := gb101) (o := .cells #[.string a1_0, .string a1_1, .int .i64 a1_2, .int .i64 a1_3] 59 (0, 0)) (kz BK101.out) hg (Kd.R_away HO111.out (fun _ hk => hk))); replace HB := Aside0.mk (hb); have HO116 := Aside0.mk (ho); clear HO111; clear ho hb hg hat))
      repeat (go_quiet (first | ((with_reducible refine bs_ (b := .append) (xs := #[.tmp 39, .tmp 44]) rfl ?_); at_builtin; refine Kd.cJ_ k59 (w0 := w) w.heap.size rfl (.tmp 39) (.tmp 44) 26 59 (.agg #[(.string ⟨#[]⟩), (.string ⟨#[]⟩), (.int .i64 0), (.int .i64 0)]) 48 rfl Tryd.underlying26 dm_ rfl (by decide) (by omega) v110 y109 (⟨(aa_ l0 x7_1).f0, (⟨(aa_ l0 x7_1).f1.f0, (aa_ l0 x7_1).f1.f1, (aa_ l0 x7_1).f1.f2⟩ : S57)⟩ : S59) [.string ((aa_ l0 x7_1).f0), .string ((aa_ l0 x7_1).f1.f0), .int .i64 ((aa_ l0 x7_1).f1.f1), .int .i64 ((aa_ l0 x7_1).f1.f2)] (fun k_ => k_ ≠ gb101) (fun _ => False) rfl rfl ?aP (fun _ hk => hk.elim) ?aF ?aO ?aB ?aS ?aL ?_; (case aP => exact cR_ _ _ _ (⟨(aa_ l0 x7_1).f0, (⟨(aa_ l0 x7_1).f1.f0, (aa_ l0 x7_1).f1.f1, (aa_ l0 x7_1).f1.f2⟩ : S57)⟩ : S59)); (case aB => exact (bq)); (case aF => exact (fun k_ hk => Kd.dD_ (g := gb101) (o := .cells #[.string a1_0, .string a1_1, .int .i64 a1_2, .int .i64 a1_3] 59 (0, 0)) (kz BK101.out) k_ hk)); (case aO => exact (rz HO111.out)); (case aS => exact (ag_ (bq))); (case aL => have := LMc20.out; omega); intro v115 w21 ho hb hg hat; rw [← Ny114.out] at ho; replace BK101 := Aside0.mk (ce_ (g := gb101) (o := .cells #[.string a1_0, .string a1_1, .int .i64 a1_2, .int .i64 a1_3] 59 (0, 0)) (kz BK101.out) hg (Kd.R_away HO111.out (fun _ hk => hk))); replace HB := Aside0.mk (hb); have HO116 := Aside0.mk (ho); clear HO111; clear ho hb hg hat)); try go_wp2_with (first | ((with_reducible refine bs_ (b := .append) (xs := #[.tmp 39, .tmp 44]) rfl ?_); at_builtin; refine Kd.cJ_ k59 (w0 := w) w.heap.size rfl (.tmp 39) (.tmp 44) 26 59 (.agg #[(.string ⟨#[]⟩), (.string ⟨#[]⟩), (.int .i64 0), (.int .i64 0)]) 48 rfl Tryd.underlying26 dm_ rfl (by decide) (by omega) v110 y109 (⟨(aa_ l0 x7_1).f0, (⟨(aa_ l0 x7_1).f1.f0, (aa_ l0 x7_1).f1.f1, (aa_ l0 x7_1).f1.f2⟩ : S57)⟩ : S59) [.string ((aa_ l0 x7_1).f0), .string ((aa_ l0 x7_1).f1.f0), .int .i64 ((aa_ l0 x7_1).f1.f1), .int .i64 ((aa_ l0 x7_1).f1.f2)] (fun k_ => k_ ≠ gb101) (fun _ => False) rfl rfl ?aP (fun _ hk => hk.elim) ?aF ?aO ?aB ?aS ?aL ?_; (case aP => exact cR_ _ _ _ (⟨(aa_ l0 x7_1).f0, (⟨(aa_ l0 x7_1).f1.f0, (aa_ l0 x7_1).f1.f1, (aa_ l0 x7_1).f1.f2⟩ : S57)⟩ : S59)); (case aB => exact (bq)); (case aF => exact (fun k_ hk => Kd.dD_ (g := gb101) (o := .cells #[.string a1_0, .string a1_1, .int .i64 a1_2, .int .i64 a1_3] 59 (0, 0)) (kz BK101.out) k_ hk)); (case aO => exact (rz HO111.out)); (case aS => exact (ag_ (bq))); (case aL => have := LMc20.out; omega); intro v115 w21 ho hb hg hat; rw [← Ny114.out] at ho; replace BK101 := Aside0.mk (ce_ (g := gb101) (o := .cells #[.string a1_0, .string a1_1, .int .i64 a1_2, .int .i64 a1_3] 59 (0, 0)) (kz BK101.out) hg (Kd.R_away HO111.out (fun _ hk => hk))); replace HB := Aside0.mk (hb); have HO116 := Aside0.mk (ho); clear HO111; clear ho hb hg hat)))
      go_roundg kj6
      case measure => have := HK1.out; have := HJ6.out; omega
      case rel => exact ⟨(y114), (true), (wrap64 (x7_1 + 1)), (by first | rfl | (simp; done) | (simp [*]; done)), (by first | rfl | (simp; done) | (simp [*]; done)), H', ⟨by have := HK1.out; have := HJ6.out; omega⟩, ⟨rz HO116.out⟩, ⟨by (with_reducible repeat (first | refine cw_ ?_ _ | refine cc_ ?_ | refine cv_ ?_ _)); exact BK101.out⟩, ⟨bq⟩⟩
     rw [if_pos c19] at H
     have c19b0 : (((aa_ l0 x7_1).f0).toList == a1_0.toList) = true := beq_iff_eq.mpr c19
     have c19b1 : (((aa_ l0 x7_1).f0).toList != a1_0.toList) = false := bne_eq_false_iff_eq.mpr c19
     clear c19
     (first | rw [c19b0] | (simp only [i64_w, i32_w]; rw [c19b0]) | (simp only [c19b1, Bool.not_true, Bool.not_false]) | (simp only [c19b0, Bool.not_true, Bool.not_false]) | skip)
     have H' := Aside0.mk H
     clear H
     go_wp2
     repeat (go_quiet (fail); try go_wp2)
     go_roundg kj6
     case measure => have := HK1.out; have := HJ6.out; omega
     case rel => exact ⟨(y109), (true), (wrap64 (x7_1 + 1)), (by first | rfl | (simp; done) | (simp [*]; done)), (by first | rfl | (simp; done) | (simp [*]; done)), H', ⟨by have := HK1.out; have := HJ6.out; omega⟩, ⟨rz HO111.out⟩, ⟨by (with_reducible repeat (first | refine cw_ ?_ _ | refine cc_ ?_ | refine cv_ ?_ _)); exact BK101.out⟩, ⟨bq⟩⟩
mutual
def ax_.l0 : Nat → List (S59) → List ByteArray → Int → List Int → Int → Int → Option ((List (S59)) × Int × Int)
 | 0, _, _, _, _, _, _ => none
 | k + 1, x5, x6, x7, x1000, x1001, x1002 => if x7 > 0 then ((aB_.f x1000 x1001 x1002 6).bind fun bt113 => (if 0 ≤ bt113.1 then (if bt113.1 < (x6.length : Int) then ((cl_.f k x5 (rdOf ByteArray.empty x6 bt113.1)).bind fun t117 => (if t117 ≥ 0 then ((cC_.f x1000 bt113.2.1 bt113.2.2 2).bind fun bt118 => (ax_.j1 k x5 x6 x7 (rdOf ByteArray.empty x6 bt113.1) t117 bt118.1 x1000 bt118.2.1 bt118.2.2)) else (ax_.j1 k x5 x6 x7 (rdOf ByteArray.empty x6 bt113.1) t117 false x1000 bt113.2.1 bt113.2.2))) else (none)) else (none))) else (some (x5, x1001, x1002))
def ax_.j1 : Nat → List (S59) → List ByteArray → Int → ByteArray → Int → Bool → List Int → Int → Int → Option ((List (S59)) × Int × Int)
 | 0, _, _, _, _, _, _, _, _, _ => none
 | k + 1, x5, x6, x7, x8, x9, x34, x1000, x1001, x1002 => if x34 = true then ((some (([] : List (S59)) : List (S59))).bind fun y121 => (if 0 ≤ x9 then (if x9 ≤ (x5.length : Int) then ((some (x5.take (x9 : Int).toNat : List (S59))).bind fun y124 => (if y121.length + y124.length < 2932031007402 then ((some (y121 ++ y124 : List (S59))).bind fun y128 => (if 0 ≤ (wrap64 (x9 + 1)) then (if (wrap64 (x9 + 1)) ≤ (x5.length : Int) then ((some (x5.drop ((wrap64 (x9 + 1)) : Int).toNat : List (S59))).bind fun y131 => (if y128.length + y131.length < 2932031007402 then (ax_.l0 k (y128 ++ y131) x6 (wrap64 (x7 - 1)) x1000 x1001 x1002) else (none))) else (none)) else (none))) else (none))) else (none)) else (none))) else ((bq_.f x1000 x1001 x1002).bind fun bt138 => ((aR_.f k x5 x8 bt138.1 bt138.2.1 bt138.2.2.1).bind fun t143 => (ax_.l0 k t143 x6 (wrap64 (x7 - 1)) x1000 bt138.2.2.2.1 bt138.2.2.2.2)))
end
def ax_.f (k : Nat) (s0_0 : List Int) (s0_1 : Int) (s0_2 : Int) (l1 : List (S59)) : Option ((List (S59)) × Int × Int) := (some (([] : List (S59)) : List (S59))).bind fun y101 => (if y101.length + l1.length < 2932031007402 then ((aB_.f s0_0 s0_1 s0_2 4).bind fun bt110 => (ax_.l0 k (y101 ++ l1) (([(⟨#[97]⟩ : ByteArray), (⟨#[98]⟩ : ByteArray), (⟨#[99]⟩ : ByteArray), (⟨#[100]⟩ : ByteArray), (⟨#[101]⟩ : ByteArray), (⟨#[102]⟩ : ByteArray)] : List ByteArray)) bt110.1 s0_0 bt110.2.1 bt110.2.2)) else (none))
set_option maxHeartbeats 8000000 in
set_option maxRecDepth 100000 in
theorem ax_.calls (k : Nat) (g : Nat) (s0_0 : List Int) (s0_1 : Int) (s0_2 : Int) (A1 : Option Addr) (c1 : Nat) (l1 : List (S59)) (r1 : List (S59)) (r2 : Int) (r3 : Int) (w0 w : World) (hI : IsS82 w0 w g s0_0 s0_1 s0_2) (hB : Below w0.heap.size w0 w) (hr1 : ∀ W_, ac_ w W_ g none → Kd.C k59 W_ A1 l1.length l1) (hc1 : l1.length ≤ c1) (h : ax_.f k s0_0 s0_1 s0_2 l1 = some (r1, r2, r3)) :
  Calls Tryd.prog 23 #[.pointer (some ⟨g, 0, none⟩), .slice A1 l1.length c1] w fun e w' => ∃ v0_ : Value, e = .returned (v0_) ∧ Kd.R k59 59 w' w.heap.size (fun _ => True) v0_ r1 ∧ IsS82 w0 w' g s0_0 r2 r3 ∧ Below w0.heap.size w0 w' ∧ ac_ w w' g none := by
 have hu59 := Tryd.underlying59
 have HR1 := Aside0.mk hr1
 have HC1 := Aside0.mk hc1
 clear hr1 hc1
 have HI0 := Aside0.mk hI
 have HK := Aside0.mk (ac_.refl w g none)
 have HL := Aside0.mk hB.size
 clear hI
 have HW0 := Aside0.mk hB.size
 have HB := Aside0.mk hB
 clear hB
 have H : ((some (([] : List (S59)) : List (S59))).bind fun y101 => (if y101.length + l1.length < 2932031007402 then ((aB_.f s0_0 s0_1 s0_2 4).bind fun bt110 => (ax_.l0 k (y101 ++ l1) (([(⟨#[97]⟩ : ByteArray), (⟨#[98]⟩ : ByteArray), (⟨#[99]⟩ : ByteArray), (⟨#[100]⟩ : ByteArray), (⟨#[101]⟩ : ByteArray), (⟨#[102]⟩ : ByteArray)] : List ByteArray)) bt110.1 s0_0 bt110.2.1 bt110.2.2)) else (none))) = some (r1, r2, r3) := h
 clear h
 obtain ⟨y101, hy101⟩ : ∃ y_ : List (S59), y_ = (([] : List (S59))) := ⟨_, rfl⟩
 replace H : (if y101.length + l1.length < 2932031007402 then ((aB_.f s0_0 s0_1 s0_2 4).bind fun bt110 => (ax_.l0 k (y101 ++ l1) (([(⟨#[97]⟩ : ByteArray), (⟨#[98]⟩ : ByteArray), (⟨#[99]⟩ : ByteArray), (⟨#[100]⟩ : ByteArray), (⟨#[101]⟩ : ByteArray), (⟨#[102]⟩ : ByteArray)] : List ByteArray)) bt110.1 s0_0 bt110.2.1 bt110.2.2)) else (none)) = some (r1, r2, r3) := by first | (rw [hy101]; with_reducible exact H) | (have H2_ := (Option.bind_some _ _).symm.trans H; rw [hy101]; with_reducible exact H2_) | (have H2_ := (Option.bind_some _ _).symm.trans H; with_reducible exact H2_) | with_reducible exact H | (rw [hy101]; exact H) | exact H
 have Ny101 := Aside0.mk hy101
 clear hy101
 by_cases c3 : y101.length + l1.length < 2932031007402
 rotate_left
 ·rw [if_neg c3] at H
  exact absurd H (by simp)
 rw [if_pos c3] at H
 have LMc3 := Aside0.mk c3
 clear c3
 obtain ⟨y104, hy104⟩ : ∃ y_ : List (S59), y_ = (y101 ++ l1) := ⟨_, rfl⟩
 replace H : ((aB_.f s0_0 s0_1 s0_2 4).bind fun bt110 => (ax_.l0 k y104 (([(⟨#[97]⟩ : ByteArray), (⟨#[98]⟩ : ByteArray), (⟨#[99]⟩ : ByteArray), (⟨#[100]⟩ : ByteArray), (⟨#[101]⟩ : ByteArray), (⟨#[102]⟩ : ByteArray)] : List ByteArray)) bt110.1 s0_0 bt110.2.1 bt110.2.2)) = some (r1, r2, r3) := by first | (rw [hy104]; with_reducible exact H) | (have H2_ := (Option.bind_some _ _).symm.trans H; rw [hy104]; with_reducible exact H2_) | (have H2_ := (Option.bind_some _ _).symm.trans H; with_reducible exact H2_) | with_reducible exact H | (rw [hy104]; exact H) | exact H
 have Ny104 := Aside0.mk hy104
 clear hy104
 obtain ⟨y107, hy107⟩ : ∃ y_ : List ByteArray, y_ = (([(⟨#[97]⟩ : ByteArray), (⟨#[98]⟩ : ByteArray), (⟨#[99]⟩ : ByteArray), (⟨#[100]⟩ : ByteArray), (⟨#[101]⟩ : ByteArray), (⟨#[102]⟩ : ByteArray)] : List ByteArray)) := ⟨_, rfl⟩
 replace H : ((aB_.f s0_0 s0_1 s0_2 4).bind fun bt110 => (ax_.l0 k y104 y107 bt110.1 s0_0 bt110.2.1 bt110.2.2)) = some (r1, r2, r3) := by first | (rw [hy107]; with_reducible exact H) | (have H2_ := (Option.bind_some _ _).symm.trans H; rw [hy107]; with_reducible exact H2_) | (have H2_ := (Option.bind_some _ _).symm.trans H; with_reducible exact H2_) | with_reducible exact H | (rw [hy107]; exact H) | exact H
 have Ny107 := Aside0.mk hy107
 clear hy107
 replace H := Option.bind_eq_some_iff.mp H
 obtain ⟨⟨t110, t111, t112⟩, A40, H⟩ := H
 (try dsimp only at H)
 have A4 := Aside0.mk A40
 clear A40
 have H' := Aside0.mk H
 clear H
 go_enter Tryd.func23, Tryd.ntmps23
 go_wp2_with (first | ((with_reducible refine aL_ (N := 11) rfl ?_); refine Kd.R_lit k59 _ 59 ?hg (N := 11) ?hd (xs := ([] : List (S59))) (inner := []) (ok := fun _ => True) (okp := fun _ => True) ?hr ?hp (fun _ hk => hk) trivial (Below.refl _ _) (Nat.le_refl _) (by simp) ?_; (case hd => rfl); (case hg => rfl); (case hr => (go_simp; try rfl)); (case hp => exact (Reps.none _ _)); intro v102 w5 ho6 hb hg_ hnew_; clear hg_ hnew_; (first | rw [← Ny101.out] at ho6 | (simp only [Int.reduceToNat] at ho6; rw [← Ny101.out] at ho6)); have HO103 := Aside0.mk (Kd.bi_ ho6 (br_ (w := w) (g := g) (row := none) (by repeat (first | (with_reducible first | exact HK.out | apply ac_.set_ | apply ah_ | apply al_ | apply ai_) | exact HK.out)))); replace HK := Aside0.mk (ac_.trans (by repeat (first | (with_reducible first | exact HK.out | apply ac_.set_ | apply ah_ | apply al_ | apply ai_) | exact HK.out)) (ac_.of_below hb g none) (.inl rfl)); replace HB := Aside0.mk (ab_ (by repeat (first | (with_reducible first | exact HB.out | apply bA_ | apply bN_ | apply bD_ | refine af_ ?_ (IsS82.ge HI0.out)) | exact HB.out)) hb); replace HI0 := Aside0.mk (IsS82.below (by repeat (first | (with_reducible first | exact HI0.out | apply IsS82.alloc | apply IsS82.drewN | apply IsS82.drew | apply IsS82.set_1 | apply IsS82.set_2) | exact HI0.out)) hb); clear hb ho6) | ((with_reducible refine bs_ (b := .append) (xs := #[.tmp 11, .tmp 12]) rfl ?_); at_builtin; refine Kd.dj_ k59 w.heap.size rfl (.tmp 11) (.tmp 12) 26 59 (.agg #[(.string ⟨#[]⟩), (.string ⟨#[]⟩), (.int .i64 0), (.int .i64 0)]) 48 rfl Tryd.underlying26 dm_ rfl (by decide) (by omega) v102 y101 l1 _ _ _ (fun _ => True) (fun _ => False) rfl rfl ?aO ?aR (fun _ _ h => h) (fun _ h => h.elim) ?aF (Below.refl _ _) ?aS ?aL ?_; (case aR => exact Kd.C_foot_now HR1.out (by repeat (first | (with_reducible first | exact HK.out | apply ac_.set_ | apply ah_ | apply al_ | apply ai_) | exact HK.out))); (case aF => exact (fun _ _ => trivial)); (case aO => exact (rz HO103.out)); (case aS => exact (br_ (w := w) (g := g) (row := none) (by repeat (first | (with_reducible first | exact HK.out | apply ac_.set_ | apply ah_ | apply al_ | apply ai_) | exact HK.out)))); (case aL => have := LMc3.out; omega); intro v105 w7 ho hb hg hat; rw [← Ny104.out] at ho; replace HB := Aside0.mk (ds_ (by repeat (first | (with_reducible first | exact HB.out | apply bA_ | apply bN_ | apply bD_ | refine af_ ?_ (IsS82.ge HI0.out)) | exact HB.out)) HL.out hb); replace HI0 := Aside0.mk (IsS82.grown (by repeat (first | (with_reducible first | exact HI0.out | apply IsS82.alloc | apply IsS82.drewN | apply IsS82.drew | apply IsS82.set_1 | apply IsS82.set_2) | exact HI0.out)) hg (IsS82.own_ne HI0.out HO103.out (by decide))); replace HK := Aside0.mk (ac_.trans (by repeat (first | (with_reducible first | exact HK.out | apply ac_.set_ | apply ah_ | apply al_ | apply ai_) | exact HK.out)) (ac_.of_grown hg g) (Kd.R_base2 HO103.out)); have HO106 := Aside0.mk (ho); clear HO103; clear ho hb hg hat) | ((with_reducible refine aL_ (N := 14) rfl ?_); refine Kd.R_lit Kd.string _ 9 ?hg (N := 14) ?hd (xs := ([(⟨#[97]⟩ : ByteArray), (⟨#[98]⟩ : ByteArray), (⟨#[99]⟩ : ByteArray), (⟨#[100]⟩ : ByteArray), (⟨#[101]⟩ : ByteArray), (⟨#[102]⟩ : ByteArray)] : List ByteArray)) (inner := [.string (⟨#[97]⟩ : ByteArray), .string (⟨#[98]⟩ : ByteArray), .string (⟨#[99]⟩ : ByteArray), .string (⟨#[100]⟩ : ByteArray), .string (⟨#[101]⟩ : ByteArray), .string (⟨#[102]⟩ : ByteArray)]) (ok := fun _ => True) (okp := fun _ => True) ?hr ?hp (fun _ hk => hk) trivial (Below.refl _ _) (Nat.le_refl _) (by simp) ?_; (case hd => rfl); (case hg => rfl); (case hr => (go_simp; try rfl)); (case hp => exact (Reps.one (show Kd.M Kd.string _ _ _ (⟨#[97]⟩ : ByteArray) [.string (⟨#[97]⟩ : ByteArray)] from rfl) (Reps.one (show Kd.M Kd.string _ _ _ (⟨#[98]⟩ : ByteArray) [.string (⟨#[98]⟩ : ByteArray)] from rfl) (Reps.one (show Kd.M Kd.string _ _ _ (⟨#[99]⟩ : ByteArray) [.string (⟨#[99]⟩ : ByteArray)] from rfl) (Reps.one (show Kd.M Kd.string _ _ _ (⟨#[100]⟩ : ByteArray) [.string (⟨#[100]⟩ : ByteArray)] from rfl) (Reps.one (show Kd.M Kd.string _ _ _ (⟨#[101]⟩ : ByteArray) [.string (⟨#[101]⟩ : ByteArray)] from rfl) (Reps.one (show Kd.M Kd.string _ _ _ (⟨#[102]⟩ : ByteArray) [.string (⟨#[102]⟩ : ByteArray)] from rfl) (Reps.none _ _)))))))); intro v108 w8 ho9 hb hg_ hnew_; clear hg_ hnew_; (first | rw [← Ny107.out] at ho9 | (simp only [Int.reduceToNat] at ho9; rw [← Ny107.out] at ho9)); replace HO106 := Aside0.mk (Kd.aM_ (rz HO106.out) hb); have HO109 := Aside0.mk (Kd.bi_ ho9 (br_ (w := w) (g := g) (row := none) (by repeat (first | (with_reducible first | exact HK.out | apply ac_.set_ | apply ah_ | apply al_ | apply ai_) | exact HK.out)))); replace HK := Aside0.mk (ac_.trans (by repeat (first | (with_reducible first | exact HK.out | apply ac_.set_ | apply ah_ | apply al_ | apply ai_) | exact HK.out)) (ac_.of_below hb g none) (.inl rfl)); replace HB := Aside0.mk (ab_ (by repeat (first | (with_reducible first | exact HB.out | apply bA_ | apply bN_ | apply bD_ | refine af_ ?_ (IsS82.ge HI0.out)) | exact HB.out)) hb); replace HI0 := Aside0.mk (IsS82.below (by repeat (first | (with_reducible first | exact HI0.out | apply IsS82.alloc | apply IsS82.drewN | apply IsS82.drew | apply IsS82.set_1 | apply IsS82.set_2) | exact HI0.out)) hb); clear hb ho9) | ((with_reducible refine as_ (f := 46) rfl ?_); refine bw_ (some 16) rfl rfl Tryd.func46 (by kernel_rfl) rfl #[.pointer (some ⟨g, 0, none⟩), .int .i64 4] rfl (by first | rfl | (simp only [lma_, lmc_, lmn_]; first | done | rfl)) ?_; (with_reducible refine (aB_.calls g s0_0 s0_1 s0_2 4 t110 t111 t112 w0 _ ?side1 ?side2 A4.out).mono ?_); (case side1 => repeat (first | (with_reducible first | exact HI0.out | apply IsS82.alloc | apply IsS82.drewN | apply IsS82.drew | apply IsS82.set_1 | apply IsS82.set_2) | exact HI0.out)); (case side2 => repeat (first | (with_reducible first | exact HB.out | apply bA_ | apply bN_ | apply bD_ | refine af_ ?_ (IsS82.ge HI0.out)) | exact HB.out)); rintro e w10 ⟨rfl, hi, hb, hk⟩; refine ⟨_, rfl, ?_⟩; replace HO106 := Aside0.mk (Kd.aT_ (Kd.df_ (IsS82.apart (show IsS82 w0 _ g s0_0 s0_1 s0_2 from by repeat (first | (with_reducible first | exact HI0.out | apply IsS82.alloc | apply IsS82.drewN | apply IsS82.drew | apply IsS82.set_1 | apply IsS82.set_2) | exact HI0.out)) (rz HO106.out) (by decide)) hk (fun _ h => h.2)) (fun _ h => h.1)); replace HO109 := Aside0.mk (Kd.aT_ (Kd.df_ (IsS82.apart (show IsS82 w0 _ g s0_0 s0_1 s0_2 from by repeat (first | (with_reducible first | exact HI0.out | apply IsS82.alloc | apply IsS82.drewN | apply IsS82.drew | apply IsS82.set_1 | apply IsS82.set_2) | exact HI0.out)) (rz HO109.out) (by decide)) hk (fun _ h => h.2)) (fun _ h => h.1)); replace HK := Aside0.mk (ac_.trans (by repeat (first | (with_reducible first | exact HK.out | apply ac_.set_ | apply ah_ | apply al_ | apply ai_) | exact HK.out)) hk (.inl rfl)); replace HB := Aside0.mk (hb); replace HI0 := Aside0.mk (hi); (try clear hb)))
 (try simp only [Act.put, lsa_, ls0_, ls1_])
 go_loopg [5, 7] k (fun kq v5 v7 w' => ∃ (x5_1 : List (S59)) (x7_1 : Int) (x1001_1 : Int) (x1002_1 : Int), v7 = .int .i64 x7_1 ∧ Aside0 (ax_.l0 kq x5_1 y107 x7_1 s0_0 x1001_1 x1002_1 = some (r1, r2, r3)) ∧ Aside0 (kq ≤ k) ∧ Aside0 (Kd.R k59 59 w' w.heap.size (fun _ => True) v5 x5_1) ∧ Aside0 (Kd.R Kd.string 9 w' w.heap.size (fun _ => True) v108 y107) ∧ Aside0 (IsS82 w0 w' g s0_0 x1001_1 x1002_1) ∧ Aside0 (ac_ w w' g none) ∧ Aside0 (Below w0.heap.size w0 w'))
 case atStart => exact ⟨(y104), (t110), (t111), (t112), (by first | rfl | (simp; done) | (simp [*]; done)), H', ⟨Nat.le_refl _⟩, ⟨rz HO106.out⟩, ⟨rz HO109.out⟩, ⟨by repeat (first | (with_reducible first | exact HI0.out | apply IsS82.alloc | apply IsS82.drewN | apply IsS82.drew | apply IsS82.set_1 | apply IsS82.set_2) | exact HI0.out)⟩, ⟨by repeat (first | (with_reducible first | exact HK.out | apply ac_.set_ | apply ah_ | apply al_ | apply ai_) | exact HK.out)⟩, ⟨by repeat (first | (with_reducible first | exact HB.out | apply bA_ | apply bN_ | apply bD_ | refine af_ ?_ (IsS82.ge HI0.out)) | exact HB.out)⟩⟩
 case round =>
  clear H'
  obtain ⟨x5_1, x7_1, x1001_1, x1002_1, rfl, HA, HK1, HO_5, HO_6, HI0, HK, HB⟩ := hrel
  cases gk with
  | zero => exact absurd HA.out (by simp [ax_.l0])
  | succ k1 =>
   have H := HA.out
   clear HA
   simp only [ax_.l0] at H
   by_cases c11 : x7_1 > 0
   rotate_left
   ·rw [if_neg c11] at H
    have c11b0 : decide (0 < x7_1) = false := decide_eq_false c11
    clear c11
    simp only [Option.some.injEq, Prod.mk.injEq] at H
    obtain ⟨rfl, rfl, rfl⟩ := H
    go_wp2
    go_ret
    exact ⟨_, by first | rfl | (simp [*, ap_, ao_] <;> rfl), rz HO_5.out, by repeat (first | (with_reducible first | exact HI0.out | apply IsS82.alloc | apply IsS82.drewN | apply IsS82.drew | apply IsS82.set_1 | apply IsS82.set_2) | exact HI0.out), by repeat (first | (with_reducible first | exact HB.out | apply bA_ | apply bN_ | apply bD_ | refine af_ ?_ (IsS82.ge HI0.out)) | exact HB.out), by repeat (first | (with_reducible first | exact HK.out | apply ac_.set_ | apply ah_ | apply al_ | apply ai_) | exact HK.out)⟩
   rw [if_pos c11] at H
   have c11b0 : decide (0 < x7_1) = true := decide_eq_true c11
   clear c11
   replace H := Option.bind_eq_some_iff.mp H
   obtain ⟨⟨t113, t114, t115⟩, A120, H⟩ := H
   (try dsimp only at H)
   have A12 := Aside0.mk A120
   clear A120
   by_cases c13 : 0 ≤ t113
   rotate_left
   ·rw [if_neg c13] at H
    exact absurd H (by simp)
   rw [if_pos c13] at H
   have c13b0 : decide (0 ≤ t113) = true := decide_eq_true c13
   clear c13
   by_cases c14 : t113 < (y107.length : Int)
   rotate_left
   ·rw [if_neg c14] at H
    exact absurd H (by simp)
   rw [if_pos c14] at H
   have c14b0 : decide (t113 < (y107.length : Int)) = true := decide_eq_true c14
   clear c14
   replace H := Option.bind_eq_some_iff.mp H
   obtain ⟨t117, A150, H⟩ := H
   (try dsimp only at H)
   have A15 := Aside0.mk A150
   clear A150
   have HC16 := Aside0.mk H
   clear H
   go_upto_region 8 with (first | ((with_reducible refine as_ (f := 46) rfl ?_); refine bw_ (some 23) rfl rfl Tryd.func46 (by kernel_rfl) rfl #[.pointer (some ⟨g, 0, none⟩), .int .i64 6] rfl (by first | rfl | (simp only [lma_, lmc_, lmn_]; first | done | rfl)) ?_; (with_reducible refine (aB_.calls g s0_0 x1001_1 x1002_1 6 t113 t114 t115 w0 _ ?side1 ?side2 A12.out).mono ?_); (case side1 => repeat (first | (with_reducible first | exact HI0.out | apply IsS82.alloc | apply IsS82.drewN | apply IsS82.drew | apply IsS82.set_1 | apply IsS82.set_2) | exact HI0.out)); (case side2 => repeat (first | (with_reducible first | exact HB.out | apply bA_ | apply bN_ | apply bD_ | refine af_ ?_ (IsS82.ge HI0.out)) | exact HB.out)); rintro e w17 ⟨rfl, hi, hb, hk⟩; refine ⟨_, rfl, ?_⟩; replace HO_5 := Aside0.mk (Kd.aT_ (Kd.df_ (IsS82.apart (show IsS82 w0 _ g s0_0 x1001_1 x1002_1 from by repeat (first | (with_reducible first | exact HI0.out | apply IsS82.alloc | apply IsS82.drewN | apply IsS82.drew | apply IsS82.set_1 | apply IsS82.set_2) | exact HI0.out)) (rz HO_5.out) (by decide)) hk (fun _ h => h.2)) (fun _ h => h.1)); replace HO_6 := Aside0.mk (Kd.aT_ (Kd.df_ (IsS82.apart (show IsS82 w0 _ g s0_0 x1001_1 x1002_1 from by repeat (first | (with_reducible first | exact HI0.out | apply IsS82.alloc | apply IsS82.drewN | apply IsS82.drew | apply IsS82.set_1 | apply IsS82.set_2) | exact HI0.out)) (rz HO_6.out) (by decide)) hk (fun _ h => h.2)) (fun _ h => h.1)); replace HK := Aside0.mk (ac_.trans (by repeat (first | (with_reducible first | exact HK.out | apply ac_.set_ | apply ah_ | apply al_ | apply ai_) | exact HK.out)) hk (.inl rfl)); replace HB := Aside0.mk (hb); replace HI0 := Aside0.mk (hi); (try clear hb); obtain ⟨Ao18, co18, eo18⟩ := Kd.bo_ HO_6.out; subst eo18; have p116 : 0 ≤ (t113 : Int) := of_decide_eq_true (by assumption); have q116 : t113 < (y107.length : Int) := of_decide_eq_true (by assumption); obtain ⟨ad116, e116, hx116_0⟩ := Kd.cW_ (Kd.aj_ HO_6.out).2.2 t113 p116 q116; cases e116; replace p116 := eq_true p116; replace q116 := eq_true q116; obtain ⟨Ao19, co19, eo19⟩ := Kd.bo_ HO_5.out; subst eo19) | ((with_reducible refine as_ (f := 50) rfl ?_); refine bw_ (some 28) rfl rfl Tryd.func50 (by kernel_rfl) rfl #[.slice Ao19 x5_1.length co19, .string (rdOf ByteArray.empty y107 t113)] rfl (by first | rfl | (simp only [lma_, lmc_, lmn_]; first | done | rfl)) ?_; (with_reducible refine (cl_.calls k1 _ _ x5_1 (rdOf ByteArray.empty y107 t113) t117 _ ?side1 ?side2 A15.out).mono ?_); (case side1 => exact cz (Kd.aj_ HO_5.out).2.2); (case side2 => exact (Kd.aj_ HO_5.out).2.1); rintro e w' ⟨rfl, ⟨nd, rfl⟩⟩; refine ⟨_, rfl, ?_⟩))
   (try simp only [Act.put, lsa_, ls0_, ls1_])
   go_cut [34] (fun v34 wc => ∃ (kq : Nat) (x34_15 : Bool) (x1001_15 : Int) (x1002_15 : Int), v34 = .bool x34_15 ∧ Aside0 (ax_.j1 kq x5_1 y107 x7_1 (rdOf ByteArray.empty y107 t113) t117 x34_15 s0_0 x1001_15 x1002_15 = some (r1, r2, r3)) ∧ Aside0 (kq ≤ k1) ∧ Aside0 (Kd.R k59 59 wc w.heap.size (fun _ => True) (.slice Ao19 x5_1.length co19) x5_1) ∧ Aside0 (Kd.R Kd.string 9 wc w.heap.size (fun _ => True) (.slice (some ad116) y107.length co18) y107) ∧ Aside0 (IsS82 w0 wc g s0_0 x1001_15 x1002_15) ∧ Aside0 (ac_ w wc g none) ∧ Aside0 (Below w0.heap.size w0 wc))
   case first =>
    have H := HC16.out
    clear HC16
    by_cases c20 : t117 ≥ 0
    rotate_left
    ·rw [if_neg c20] at H
     have c20b0 : decide (0 ≤ t117) = false := decide_eq_false c20
     clear c20
     (first | rw [c20b0] | (simp only [i64_w, i32_w]; rw [c20b0]) | (simp only [c20b1, Bool.not_true, Bool.not_false]) | (simp only [c20b0, Bool.not_true, Bool.not_false]) | skip)
     have H' := Aside0.mk H
     clear H
     go_wp2
     go_meet
     case rel => exact ⟨_, (false), (t114), (t115), (by first | rfl | (simp; done) | (simp [*]; done)), H', ⟨by have := HK1.out; first | omega | exact Nat.le_refl _⟩, ⟨rz HO_5.out⟩, ⟨rz HO_6.out⟩, ⟨by repeat (first | (with_reducible first | exact HI0.out | apply IsS82.alloc | apply IsS82.drewN | apply IsS82.drew | apply IsS82.set_1 | apply IsS82.set_2) | exact HI0.out)⟩, ⟨by repeat (first | (with_reducible first | exact HK.out | apply ac_.set_ | apply ah_ | apply al_ | apply ai_) | exact HK.out)⟩, ⟨by repeat (first | (with_reducible first | exact HB.out | apply bA_ | apply bN_ | apply bD_ | refine af_ ?_ (IsS82.ge HI0.out)) | exact HB.out)⟩⟩
    rw [if_pos c20] at H
    have c20b0 : decide (0 ≤ t117) = true := decide_eq_true c20
    clear c20
    (first | rw [c20b0] | (simp only [i64_w, i32_w]; rw [c20b0]) | (simp only [c20b1, Bool.not_true, Bool.not_false]) | (simp only [c20b0, Bool.not_true, Bool.not_false]) | skip)
    replace H := Option.bind_eq_some_iff.mp H
    obtain ⟨⟨t118, t119, t120⟩, A210, H⟩ := H
    (try dsimp only at H)
    have A21 := Aside0.mk A210
    clear A210
    have H' := Aside0.mk H
    clear H
    go_wp2_with (first | (go_at_call 48; (with_reducible refine (cC_.calls g s0_0 t114 t115 2 t118 t119 t120 w0 _ ?side1 ?side2 A21.out).mono ?_); (case side1 => repeat (first | (with_reducible first | exact HI0.out | apply IsS82.alloc | apply IsS82.drewN | apply IsS82.drew | apply IsS82.set_1 | apply IsS82.set_2) | exact HI0.out)); (case side2 => repeat (first | (with_reducible first | exact HB.out | apply bA_ | apply bN_ | apply bD_ | refine af_ ?_ (IsS82.ge HI0.out)) | exact HB.out)); rintro e w22 ⟨rfl, hi, hb, hk⟩; replace HO_5 := Aside0.mk (Kd.aT_ (Kd.df_ (IsS82.apart (show IsS82 w0 _ g s0_0 t114 t115 from by repeat (first | (with_reducible first | exact HI0.out | apply IsS82.alloc | apply IsS82.drewN | apply IsS82.drew | apply IsS82.set_1 | apply IsS82.set_2) | exact HI0.out)) (rz HO_5.out) (by decide)) hk (fun _ h => h.2)) (fun _ h => h.1)); replace HO_6 := Aside0.mk (Kd.aT_ (Kd.df_ (IsS82.apart (show IsS82 w0 _ g s0_0 t114 t115 from by repeat (first | (with_reducible first | exact HI0.out | apply IsS82.alloc | apply IsS82.drewN | apply IsS82.drew | apply IsS82.set_1 | apply IsS82.set_2) | exact HI0.out)) (rz HO_6.out) (by decide)) hk (fun _ h => h.2)) (fun _ h => h.1)); replace HK := Aside0.mk (ac_.trans (by repeat (first | (with_reducible first | exact HK.out | apply ac_.set_ | apply ah_ | apply al_ | apply ai_) | exact HK.out)) hk (.inl rfl)); replace HB := Aside0.mk (hb); replace HI0 := Aside0.mk (hi); (try clear hb)))
    go_meet
    case rel => exact ⟨_, (t118), (t119), (t120), (by first | rfl | (simp; done) | (simp [*]; done)), H', ⟨by have := HK1.out; first | omega | exact Nat.le_refl _⟩, ⟨rz HO_5.out⟩, ⟨rz HO_6.out⟩, ⟨by repeat (first | (with_reducible first | exact HI0.out | apply IsS82.alloc | apply IsS82.drewN | apply IsS82.drew | apply IsS82.set_1 | apply IsS82.set_2) | exact HI0.out)⟩, ⟨by repeat (first | (with_reducible first | exact HK.out | apply ac_.set_ | apply ah_ | apply al_ | apply ai_) | exact HK.out)⟩, ⟨by repeat (first | (with_reducible first | exact HB.out | apply bA_ | apply bN_ | apply bD_ | refine af_ ?_ (IsS82.ge HI0.out)) | exact HB.out)⟩⟩
   case rest =>
    clear HC16
    obtain ⟨kq, x34_15, x1001_15, x1002_15, rfl, HA, HJ15, HO_5, HO_6, HI0, HK, HB⟩ := hcut
    cases kq with
    | zero => exact absurd HA.out (by simp [ax_.j1])
    | succ kj15 =>
     have H := HA.out
     clear HA
     simp only [ax_.j1] at H
     by_cases c23 : x34_15 = true
     rotate_left
     ·replace c23 := Bool.eq_false_iff.mpr c23
      subst c23
      have H1 : ((bq_.f s0_0 x1001_15 x1002_15).bind fun bt138 => ((aR_.f kj15 x5_1 (rdOf ByteArray.empty y107 t113) bt138.1 bt138.2.1 bt138.2.2.1).bind fun t143 => (ax_.l0 kj15 t143 y107 (wrap64 (x7_1 - 1)) s0_0 bt138.2.2.2.1 bt138.2.2.2.2))) = some (r1, r2, r3) := by rw [if_neg (show ¬ (false = true) by decide)] at H; exact H
      clear H
      have H := H1
      clear H1
      replace H := Option.bind_eq_some_iff.mp H
      obtain ⟨⟨t138, t139, t140, t141, t142⟩, A370, H⟩ := H
      (try dsimp only at H)
      have A37 := Aside0.mk A370
      clear A370
      replace H := Option.bind_eq_some_iff.mp H
      obtain ⟨t143, A380, H⟩ := H
      (try dsimp only at H)
      have A38 := Aside0.mk A380
      clear A380
      have H' := Aside0.mk H
      clear H
      go_wp2_with (first | ((with_reducible refine as_ (f := 49) rfl ?_); refine bw_ (some 49) rfl rfl Tryd.func49 (by kernel_rfl) rfl #[.pointer (some ⟨g, 0, none⟩)] rfl (by first | rfl | (simp only [lma_, lmc_, lmn_]; first | done | rfl)) ?_; (with_reducible refine (bq_.calls g s0_0 x1001_15 x1002_15 t138 t139 t140 t141 t142 w0 _ ?side1 ?side2 A37.out).mono ?_); (case side1 => repeat (first | (with_reducible first | exact HI0.out | apply IsS82.alloc | apply IsS82.drewN | apply IsS82.drew | apply IsS82.set_1 | apply IsS82.set_2) | exact HI0.out)); (case side2 => repeat (first | (with_reducible first | exact HB.out | apply bA_ | apply bN_ | apply bD_ | refine af_ ?_ (IsS82.ge HI0.out)) | exact HB.out)); rintro e w39 ⟨rfl, hi, hb, hk⟩; refine ⟨_, rfl, ?_⟩; replace HO_5 := Aside0.mk (Kd.aT_ (Kd.df_ (IsS82.apart (show IsS82 w0 _ g s0_0 x1001_15 x1002_15 from by repeat (first | (with_reducible first | exact HI0.out | apply IsS82.alloc | apply IsS82.drewN | apply IsS82.drew | apply IsS82.set_1 | apply IsS82.set_2) | exact HI0.out)) (rz HO_5.out) (by decide)) hk (fun _ h => h.2)) (fun _ h => h.1)); replace HO_6 := Aside0.mk (Kd.aT_ (Kd.df_ (IsS82.apart (show IsS82 w0 _ g s0_0 x1001_15 x1002_15 from by repeat (first | (with_reducible first | exact HI0.out | apply IsS82.alloc | apply IsS82.drewN | apply IsS82.drew | apply IsS82.set_1 | apply IsS82.set_2) | exact HI0.out)) (rz HO_6.out) (by decide)) hk (fun _ h => h.2)) (fun _ h => h.1)); replace HK := Aside0.mk (ac_.trans (by repeat (first | (with_reducible first | exact HK.out | apply ac_.set_ | apply ah_ | apply al_ | apply ai_) | exact HK.out)) hk (.inl rfl)); replace HB := Aside0.mk (hb); replace HI0 := Aside0.mk (hi); (try clear hb)) | ((with_reducible refine as_ (f := 51) rfl ?_); refine bw_ (some 51) rfl rfl Tryd.func51 (by kernel_rfl) rfl #[.slice Ao19 x5_1.length co19, .agg #[.string (rdOf ByteArray.empty y107 t113), .string t138, .int .i64 t139, .int .i64 t140]] rfl (by first | rfl | (simp only [lma_, lmc_, lmn_]; first | done | rfl)) ?_; (with_reducible refine (aR_.calls kj15 _ _ x5_1 (rdOf ByteArray.empty y107 t113) t138 t139 t140 t143 _ ?side1 ?side2 A38.out).mono ?_); (case side1 => exact cz (Kd.aj_ HO_5.out).2.2); (case side2 => exact (Kd.aj_ HO_5.out).2.1); rintro e w40 ⟨v144, rfl, ho0, hb⟩; refine ⟨_, rfl, ?_⟩; replace HO_6 := Aside0.mk (Kd.aM_ (rz HO_6.out) hb); have HO145 := Aside0.mk (Kd.bi_ (Kd.bG_ ho0 (Kd.R_lt (rz HO_5.out))) (br_ (w := w) (g := g) (row := none) (by repeat (first | (with_reducible first | exact HK.out | apply ac_.set_ | apply ah_ | apply al_ | apply ai_) | exact HK.out)))); replace HO_5 := Aside0.mk (Kd.aY_ (rz HO_5.out) (Kd.bh_ ho0) hb); replace HK := Aside0.mk (ac_.trans (by repeat (first | (with_reducible first | exact HK.out | apply ac_.set_ | apply ah_ | apply al_ | apply ai_) | exact HK.out)) (ac_.of_below hb g none) (.inl rfl)); replace HB := Aside0.mk (ab_ (by repeat (first | (with_reducible first | exact HB.out | apply bA_ | apply bN_ | apply bD_ | refine af_ ?_ (IsS82.ge HI0.out)) | exact HB.out)) hb); replace HI0 := Aside0.mk (IsS82.below (by repeat (first | (with_reducible first | exact HI0.out | apply IsS82.alloc | apply IsS82.drewN | apply IsS82.drew | apply IsS82.set_1 | apply IsS82.set_2) | exact HI0.out)) hb); (try clear hb); (try clear ho0)))
      go_roundg kj15
      case measure => have := HK1.out; have := HJ15.out; omega
      case rel => exact ⟨(t143), (wrap64 (x7_1 - 1)), (t141), (t142), (by first | rfl | (simp; done) | (simp [*]; done)), H', ⟨by have := HK1.out; have := HJ15.out; omega⟩, ⟨rz (Kd.aT_ HO145.out (fun _ hk => trivial))⟩, ⟨rz HO_6.out⟩, ⟨by repeat (first | (with_reducible first | exact HI0.out | apply IsS82.alloc | apply IsS82.drewN | apply IsS82.drew | apply IsS82.set_1 | apply IsS82.set_2) | exact HI0.out)⟩, ⟨by repeat (first | (with_reducible first | exact HK.out | apply ac_.set_ | apply ah_ | apply al_ | apply ai_) | exact HK.out)⟩, ⟨by repeat (first | (with_reducible first | exact HB.out | apply bA_ | apply bN_ | apply bD_ | refine af_ ?_ (IsS82.ge HI0.out)) | exact HB.out)⟩⟩
     subst c23
     have H1 : ((some (([] : List (S59)) : List (S59))).bind fun y121 => (if 0 ≤ t117 then (if t117 ≤ (x5_1.length : Int) then ((some (x5_1.take (t117 : Int).toNat : List (S59))).bind fun y124 => (if y121.length + y124.length < 2932031007402 then ((some (y121 ++ y124 : List (S59))).bind fun y128 => (if 0 ≤ (wrap64 (t117 + 1)) then (if (wrap64 (t117 + 1)) ≤ (x5_1.length : Int) then ((some (x5_1.drop ((wrap64 (t117 + 1)) : Int).toNat : List (S59))).bind fun y131 => (if y128.length + y131.length < 2932031007402 then (ax_.l0 kj15 (y128 ++ y131) y107 (wrap64 (x7_1 - 1)) s0_0 x1001_15 x1002_15) else (none))) else (none)) else (none))) else (none))) else (none)) else (none))) = some (r1, r2, r3) := by rw [if_pos rfl] at H; exact H
     clear H
     have H := H1
     clear H1
     obtain ⟨y121, hy121⟩ : ∃ y_ : List (S59), y_ = (([] : List (S59))) := ⟨_, rfl⟩
     replace H : (if 0 ≤ t117 then (if t117 ≤ (x5_1.length : Int) then ((some (x5_1.take (t117 : Int).toNat : List (S59))).bind fun y124 => (if y121.length + y124.length < 2932031007402 then ((some (y121 ++ y124 : List (S59))).bind fun y128 => (if 0 ≤ (wrap64 (t117 + 1)) then (if (wrap64 (t117 + 1)) ≤ (x5_1.length : Int) then ((some (x5_1.drop ((wrap64 (t117 + 1)) : Int).toNat : List (S59))).bind fun y131 => (if y128.length + y131.length < 2932031007402 then (ax_.l0 kj15 (y128 ++ y131) y107 (wrap64 (x7_1 - 1)) s0_0 x1001_15 x1002_15) else (none))) else (none)) else (none))) else (none))) else (none)) else (none)) = some (r1, r2, r3) := by first | (rw [hy121]; with_reducible exact H) | (have H2_ := (Option.bind_some _ _).symm.trans H; rw [hy121]; with_reducible exact H2_) | (have H2_ := (Option.bind_some _ _).symm.trans H; with_reducible exact H2_) | with_reducible exact H | (rw [hy121]; exact H) | exact H
     have Ny121 := Aside0.mk hy121
     clear hy121
     by_cases c24 : 0 ≤ t117
     rotate_left
     ·rw [if_neg c24] at H
      exact absurd H (by simp)
     rw [if_pos c24] at H
     have c24b0 := eq_true c24
     have c24b1 : decide (0 ≤ t117) = true := decide_eq_true c24
     clear c24
     by_cases c25 : t117 ≤ (x5_1.length : Int)
     rotate_left
     ·rw [if_neg c25] at H
      exact absurd H (by simp)
     rw [if_pos c25] at H
     have c25b0 := eq_true c25
     have c25b1 : decide (t117 ≤ (x5_1.length : Int)) = true := decide_eq_true c25
     clear c25
     obtain ⟨y124, hy124⟩ : ∃ y_ : List (S59), y_ = (x5_1.take (t117 : Int).toNat) := ⟨_, rfl⟩
     replace H : (if y121.length + y124.length < 2932031007402 then ((some (y121 ++ y124 : List (S59))).bind fun y128 => (if 0 ≤ (wrap64 (t117 + 1)) then (if (wrap64 (t117 + 1)) ≤ (x5_1.length : Int) then ((some (x5_1.drop ((wrap64 (t117 + 1)) : Int).toNat : List (S59))).bind fun y131 => (if y128.length + y131.length < 2932031007402 then (ax_.l0 kj15 (y128 ++ y131) y107 (wrap64 (x7_1 - 1)) s0_0 x1001_15 x1002_15) else (none))) else (none)) else (none))) else (none)) = some (r1, r2, r3) := by first | (rw [hy124]; with_reducible exact H) | (have H2_ := (Option.bind_some _ _).symm.trans H; rw [hy124]; with_reducible exact H2_) | (have H2_ := (Option.bind_some _ _).symm.trans H; with_reducible exact H2_) | with_reducible exact H | (rw [hy124]; exact H) | exact H
     have Ny124 := Aside0.mk hy124
     clear hy124
     by_cases c26 : y121.length + y124.length < 2932031007402
     rotate_left
     ·rw [if_neg c26] at H
      exact absurd H (by simp)
     rw [if_pos c26] at H
     have LMc26 := Aside0.mk c26
     clear c26
     obtain ⟨y128, hy128⟩ : ∃ y_ : List (S59), y_ = (y121 ++ y124) := ⟨_, rfl⟩
     replace H : (if 0 ≤ (wrap64 (t117 + 1)) then (if (wrap64 (t117 + 1)) ≤ (x5_1.length : Int) then ((some (x5_1.drop ((wrap64 (t117 + 1)) : Int).toNat : List (S59))).bind fun y131 => (if y128.length + y131.length < 2932031007402 then (ax_.l0 kj15 (y128 ++ y131) y107 (wrap64 (x7_1 - 1)) s0_0 x1001_15 x1002_15) else (none))) else (none)) else (none)) = some (r1, r2, r3) := by first | (rw [hy128]; with_reducible exact H) | (have H2_ := (Option.bind_some _ _).symm.trans H; rw [hy128]; with_reducible exact H2_) | (have H2_ := (Option.bind_some _ _).symm.trans H; with_reducible exact H2_) | with_reducible exact H | (rw [hy128]; exact H) | exact H
     have Ny128 := Aside0.mk hy128
     clear hy128
     obtain ⟨ji27, hji27⟩ : ∃ j_ : Int, (wrap64 (t117 + 1)) = j_ := ⟨_, rfl⟩
     replace H : (if 0 ≤ (ji27) then (if (ji27) ≤ (x5_1.length : Int) then ((some (x5_1.drop ((ji27) : Int).toNat : List (S59))).bind fun y131 => (if y128.length + y131.length < 2932031007402 then (ax_.l0 kj15 (y128 ++ y131) y107 (wrap64 (x7_1 - 1)) s0_0 x1001_15 x1002_15) else (none))) else (none)) else (none)) = some (r1, r2, r3) := by first | (rw [hji27] at H; exact H) | (simp only [hji27] at H ⊢; exact H)
     have hji27w : (IntKind.i64.wrap (t117 + 1)) = ji27 := (i64_w _).trans hji27
     by_cases c28 : 0 ≤ (ji27)
     rotate_left
     ·rw [if_neg c28] at H
      exact absurd H (by simp)
     rw [if_pos c28] at H
     have c28b0 := eq_true c28
     have c28b1 : decide (0 ≤ (ji27)) = true := decide_eq_true c28
     clear c28
     by_cases c29 : (ji27) ≤ (x5_1.length : Int)
     rotate_left
     ·rw [if_neg c29] at H
      exact absurd H (by simp)
     rw [if_pos c29] at H
     have c29b0 := eq_true c29
     have c29b1 : decide ((ji27) ≤ (x5_1.length : Int)) = true := decide_eq_true c29
     clear c29
     obtain ⟨y131, hy131⟩ : ∃ y_ : List (S59), y_ = (x5_1.drop ((ji27) : Int).toNat) := ⟨_, rfl⟩
     replace H : (if y128.length + y131.length < 2932031007402 then (ax_.l0 kj15 (y128 ++ y131) y107 (wrap64 (x7_1 - 1)) s0_0 x1001_15 x1002_15) else (none)) = some (r1, r2, r3) := by first | (rw [hy131]; with_reducible exact H) | (have H2_ := (Option.bind_some _ _).symm.trans H; rw [hy131]; with_reducible exact H2_) | (have H2_ := (Option.bind_some _ _).symm.trans H; with_reducible exact H2_) | with_reducible exact H | (rw [hy131]; exact H) | exact H
     have Ny131 := Aside0.mk hy131
     clear hy131
     by_cases c30 : y128.length + y131.length < 2932031007402
     rotate_left
     ·rw [if_neg c30] at H
      exact absurd H (by simp)
     rw [if_pos c30] at H
     have LMc30 := Aside0.mk c30
     clear c30
     obtain ⟨y135, hy135⟩ : ∃ y_ : List (S59), y_ = (y128 ++ y131) := ⟨_, rfl⟩
     replace H : (ax_.l0 kj15 y135 y107 (wrap64 (x7_1 - 1)) s0_0 x1001_15 x1002_15) = some (r1, r2, r3) := by first | (rw [hy135]; with_reducible exact H) | (have H2_ := (Option.bind_some _ _).symm.trans H; rw [hy135]; with_reducible exact H2_) | (have H2_ := (Option.bind_some _ _).symm.trans H; with_reducible exact H2_) | with_reducible exact H | (rw [hy135]; exact H) | exact H
     have Ny135 := Aside0.mk hy135
     clear hy135
     have H' := Aside0.mk H
     clear H
     go_wp2_with (first | ((with_reducible refine aL_ (N := 35) rfl ?_); refine Kd.R_lit k59 _ 59 ?hg (N := 35) ?hd (xs := ([] : List (S59))) (inner := []) (ok := fun _ => True) (okp := fun _ => True) ?hr ?hp (fun _ hk => hk) trivial (Below.refl _ _) (Nat.le_refl _) (by simp) ?_; (case hd => rfl); (case hg => rfl); (case hr => (go_simp; try rfl)); (case hp => exact (Reps.none _ _)); intro v122 w31 ho32 hb hg_ hnew_; clear hg_ hnew_; (first | rw [← Ny121.out] at ho32 | (simp only [Int.reduceToNat] at ho32; rw [← Ny121.out] at ho32)); replace HO_6 := Aside0.mk (Kd.aM_ (rz HO_6.out) hb); have HO123 := Aside0.mk (Kd.bi_ (Kd.bG_ ho32 (Kd.R_lt (rz HO_5.out))) (br_ (w := w) (g := g) (row := none) (by repeat (first | (with_reducible first | exact HK.out | apply ac_.set_ | apply ah_ | apply al_ | apply ai_) | exact HK.out)))); replace HO_5 := Aside0.mk (Kd.aY_ (rz HO_5.out) (Kd.bh_ ho32) hb); replace HK := Aside0.mk (ac_.trans (by repeat (first | (with_reducible first | exact HK.out | apply ac_.set_ | apply ah_ | apply al_ | apply ai_) | exact HK.out)) (ac_.of_below hb g none) (.inl rfl)); replace HB := Aside0.mk (ab_ (by repeat (first | (with_reducible first | exact HB.out | apply bA_ | apply bN_ | apply bD_ | refine af_ ?_ (IsS82.ge HI0.out)) | exact HB.out)) hb); replace HI0 := Aside0.mk (IsS82.below (by repeat (first | (with_reducible first | exact HI0.out | apply IsS82.alloc | apply IsS82.drewN | apply IsS82.drew | apply IsS82.set_1 | apply IsS82.set_2) | exact HI0.out)) hb); clear hb ho32; have q33 : (t117 : Int) ≤ ((x5_1.length : Int) : Int) := of_decide_eq_true (by assumption); obtain ⟨i033, hi033, _, hsz33, _⟩ := info_parts dm_; have hroom33 : x5_1.length ≤ co19 := (Kd.aj_ HO_5.out).2.1; have hC33 : Kd.C k59 _ Ao19 x5_1.length x5_1 := (Kd.aj_ HO_5.out).2.2; have hcut33 := cut_to (P := Tryd.prog) 26 59 .i64 Tryd.underlying26 hi033 Ao19 x5_1.length co19 t117 (of_decide_eq_true (by assumption)) q33 hroom33; have hr33 := Kd.C_take (m := (t117 : Int).toNat) hC33 (by omega); have hy33 : y124.length = (t117 : Int).toNat := (by rw [Ny124.out, List.length_take]; omega); rw [← Ny124.out] at hr33; rw [← hy33] at hcut33; have HR127 := Aside0.mk hr33; have HC127 := Aside0.mk (show y124.length ≤ co19 from by omega); clear hr33 hC33 hroom33 hi033 hsz33; have KY33 := Aside0.mk hy33; clear hy33; have KL33 := Aside0.mk (show (t117 : Int).toNat ≤ x5_1.length from by omega); replace q33 := eq_true q33) | ((with_reducible refine bs_ (b := .append) (xs := #[.tmp 35, .tmp 38]) rfl ?_); at_builtin; refine Kd.dj_ k59 w.heap.size rfl (.tmp 35) (.tmp 38) 26 59 (.agg #[(.string ⟨#[]⟩), (.string ⟨#[]⟩), (.int .i64 0), (.int .i64 0)]) 48 rfl Tryd.underlying26 dm_ rfl (by decide) (by omega) v122 y121 y124 _ _ _ (fun k_ => some k_ ≠ (.slice Ao19 x5_1.length co19 : Value).ownBlock) (fun _ => False) rfl rfl ?aO ?aR (fun _ _ h => h) (fun _ h => h.elim) ?aF (Below.refl _ _) ?aS ?aL ?_; (case aR => repeat (first | exact (by repeat (first | (with_reducible exact HR127.out) | (with_reducible first | refine Kd.bn_ ?_ _ | refine Kd.bm_ ?_ _ | refine Kd.bH_ ?_) | exact HR127.out)) | (with_reducible first | refine Kd.bn_ ?_ _ | refine Kd.bm_ ?_ _ | refine Kd.bH_ ?_))); (case aF => exact (fun k_ hk => Kd.fresh' (Kd.R_lt (rz HO_5.out)) k_ hk)); (case aO => exact (rz (Kd.aT_ HO123.out (fun _ hk => hk.2)))); (case aS => exact (br_ (w := w) (g := g) (row := none) (by repeat (first | (with_reducible first | exact HK.out | apply ac_.set_ | apply ah_ | apply al_ | apply ai_) | exact HK.out)))); (case aL => have := LMc26.out; omega); intro v129 w34 ho hb hg hat; rw [← Ny128.out] at ho; replace HO_6 := Aside0.mk (Kd.R_over' (rz HO_6.out) (Kd.R_typed (rz HO123.out)) (by decide) hg); replace HB := Aside0.mk (ds_ (by repeat (first | (with_reducible first | exact HB.out | apply bA_ | apply bN_ | apply bD_ | refine af_ ?_ (IsS82.ge HI0.out)) | exact HB.out)) HL.out hb); replace HI0 := Aside0.mk (IsS82.grown (by repeat (first | (with_reducible first | exact HI0.out | apply IsS82.alloc | apply IsS82.drewN | apply IsS82.drew | apply IsS82.set_1 | apply IsS82.set_2) | exact HI0.out)) hg (IsS82.own_ne HI0.out HO123.out (by decide))); replace HK := Aside0.mk (ac_.trans (by repeat (first | (with_reducible first | exact HK.out | apply ac_.set_ | apply ah_ | apply al_ | apply ai_) | exact HK.out)) (ac_.of_grown hg g) (Kd.R_base2 HO123.out)); replace HR127 := Aside0.mk ((show Kd.C k59 w34 Ao19 y124.length y124 from by rw [Ny124.out]; exact Kd.C_take (m := (t117 : Int).toNat) ((Kd.aj_ (Kd.R_after (ok := (fun _ => True)) (rz HO_5.out) hg hat)).2.2) KL33.out)); replace HO_5 := Aside0.mk (Kd.R_after (ok := (fun _ => True)) (rz HO_5.out) hg hat); have HO130 := Aside0.mk (ho); clear HO123; clear ho hb hg hat; have q35 : ((ji27) : Int) ≤ ((x5_1.length : Int) : Int) := of_decide_eq_true (by assumption); obtain ⟨i035, hi035, _, hsz35, _⟩ := info_parts dm_; have hroom35 : x5_1.length ≤ co19 := (Kd.aj_ HO_5.out).2.1; have hC35 : Kd.C k59 _ Ao19 x5_1.length x5_1 := (Kd.aj_ HO_5.out).2.2; have q035 : (0 : Int) ≤ ((ji27) : Int) := of_decide_eq_true (by assumption); have hcut35 := cut_from (P := Tryd.prog) 26 59 .i64 Tryd.underlying26 hi035 4 hsz35 Ao19 x5_1.length co19 (ji27) q035 q35; have hr35 := Kd.C_drop (m := ((ji27) : Int).toNat) (c := co19) hC35 (by omega) hroom35; obtain ⟨A35, hA35⟩ : ∃ A1, A1 = (if co19 = ((ji27) : Int).toNat then Ao19 else (Ao19 : Option Addr).map (·.add (((ji27) : Int).toNat * 4))) := ⟨_, rfl⟩; obtain ⟨c35, hc35⟩ : ∃ c1, c1 = co19 - ((ji27) : Int).toNat := ⟨_, rfl⟩; have hy35 : y131.length = x5_1.length - ((ji27) : Int).toNat := (by rw [Ny131.out, List.length_drop] <;> omega); rw [show (x5_1).drop ((ji27) : Int).toNat = y131 from Ny131.out.symm] at hr35; replace hr35 : Kd.C k59 _ A35 y131.length y131 := (by rw [hA35]; exact hr35); rw [← hy35, ← hA35, ← hc35] at hcut35; have HR134 := Aside0.mk hr35; have HC134 := Aside0.mk (show y131.length ≤ c35 from by rw [hy35, hc35]; exact Nat.sub_le_sub_right hroom35 _); clear hr35 hC35 hroom35 hi035 hsz35 hc35; have KY35 := Aside0.mk hy35; have KA35 := Aside0.mk hA35; clear hy35 hA35; have KL35 := Aside0.mk (show ((ji27) : Int).toNat ≤ x5_1.length from by omega); replace q35 := eq_true q35) | ((with_reducible refine bs_ (b := .append) (xs := #[.tmp 40, .tmp 44]) rfl ?_); at_builtin; refine Kd.dj_ k59 w.heap.size rfl (.tmp 40) (.tmp 44) 26 59 (.agg #[(.string ⟨#[]⟩), (.string ⟨#[]⟩), (.int .i64 0), (.int .i64 0)]) 48 rfl Tryd.underlying26 dm_ rfl (by decide) (by omega) v129 y128 y131 _ _ _ (fun k_ => some k_ ≠ (.slice Ao19 x5_1.length co19 : Value).ownBlock) (fun _ => False) rfl rfl ?aO ?aR (fun _ _ h => h) (fun _ h => h.elim) ?aF (Below.refl _ _) ?aS ?aL ?_; (case aR => repeat (first | exact (by repeat (first | (with_reducible exact HR134.out) | (with_reducible first | refine Kd.bn_ ?_ _ | refine Kd.bm_ ?_ _ | refine Kd.bH_ ?_) | exact HR134.out)) | (with_reducible first | refine Kd.bn_ ?_ _ | refine Kd.bm_ ?_ _ | refine Kd.bH_ ?_))); (case aF => exact (fun k_ hk => Kd.fresh' (Kd.R_lt (rz HO_5.out)) k_ hk)); (case aO => exact (rz HO130.out)); (case aS => exact (br_ (w := w) (g := g) (row := none) (by repeat (first | (with_reducible first | exact HK.out | apply ac_.set_ | apply ah_ | apply al_ | apply ai_) | exact HK.out)))); (case aL => have := LMc30.out; omega); intro v136 w36 ho hb hg hat; rw [← Ny135.out] at ho; replace HO_6 := Aside0.mk (Kd.R_over' (rz HO_6.out) (Kd.R_typed (rz HO130.out)) (by decide) hg); replace HB := Aside0.mk (ds_ (by repeat (first | (with_reducible first | exact HB.out | apply bA_ | apply bN_ | apply bD_ | refine af_ ?_ (IsS82.ge HI0.out)) | exact HB.out)) HL.out hb); replace HI0 := Aside0.mk (IsS82.grown (by repeat (first | (with_reducible first | exact HI0.out | apply IsS82.alloc | apply IsS82.drewN | apply IsS82.drew | apply IsS82.set_1 | apply IsS82.set_2) | exact HI0.out)) hg (IsS82.own_ne HI0.out HO130.out (by decide))); replace HK := Aside0.mk (ac_.trans (by repeat (first | (with_reducible first | exact HK.out | apply ac_.set_ | apply ah_ | apply al_ | apply ai_) | exact HK.out)) (ac_.of_grown hg g) (Kd.R_base2 HO130.out)); replace HR127 := Aside0.mk ((show Kd.C k59 w36 Ao19 y124.length y124 from by rw [Ny124.out]; exact Kd.C_take (m := (t117 : Int).toNat) ((Kd.aj_ (Kd.R_after (ok := (fun _ => True)) (rz HO_5.out) hg hat)).2.2) KL33.out)); replace HR134 := Aside0.mk ((show Kd.C k59 w36 A35 y131.length y131 from by rw [Ny131.out, KA35.out]; exact Kd.C_drop (m := ((ji27) : Int).toNat) (c := co19) ((Kd.aj_ (Kd.R_after (ok := (fun _ => True)) (rz HO_5.out) hg hat)).2.2) KL35.out ((Kd.aj_ (Kd.R_after (ok := (fun _ => True)) (rz HO_5.out) hg hat)).2.1))); replace HO_5 := Aside0.mk (Kd.R_after (ok := (fun _ => True)) (rz HO_5.out) hg hat); have HO137 := Aside0.mk (ho); clear HO130; clear ho hb hg hat))
     go_roundg kj15
     case measure => have := HK1.out; have := HJ15.out; omega
     case rel => exact ⟨(y135), (wrap64 (x7_1 - 1)), (x1001_15), (x1002_15), (by first | rfl | (simp; done) | (simp [*]; done)), H', ⟨by have := HK1.out; have := HJ15.out; omega⟩, ⟨rz (Kd.aT_ HO137.out (fun _ hk => trivial))⟩, ⟨rz HO_6.out⟩, ⟨by repeat (first | (with_reducible first | exact HI0.out | apply IsS82.alloc | apply IsS82.drewN | apply IsS82.drew | apply IsS82.set_1 | apply IsS82.set_2) | exact HI0.out)⟩, ⟨by repeat (first | (with_reducible first | exact HK.out | apply ac_.set_ | apply ah_ | apply al_ | apply ai_) | exact HK.out)⟩, ⟨by repeat (first | (with_reducible first | exact HB.out | apply bA_ | apply bN_ | apply bD_ | refine af_ ?_ (IsS82.ge HI0.out)) | exact HB.out)⟩⟩
def bP_.f (s0_0 : List Int) (s0_1 : Int) (s0_2 : Int) (l1 : List ByteArray) : Option (ByteArray × Int × Int) := (aB_.f s0_0 s0_1 s0_2 (l1.length : Int)).bind fun bt101 => (if 0 ≤ bt101.1 then (if bt101.1 < (l1.length : Int) then (some (rdOf ByteArray.empty l1 bt101.1, bt101.2.1, bt101.2.2)) else (none)) else (none))
set_option maxHeartbeats 8000000 in
set_option maxRecDepth 100000 in
theorem bP_.calls (g : Nat) (s0_0 : List Int) (s0_1 : Int) (s0_2 : Int) (A1 : Option Addr) (c1 : Nat) (l1 : List ByteArray) (r1 : ByteArray) (r2 : Int) (r3 : Int) (w0 w : World) (hI : IsS82 w0 w g s0_0 s0_1 s0_2) (hB : Below w0.heap.size w0 w) (hr1 : Kd.C Kd.string w A1 l1.length l1) (hc1 : l1.length ≤ c1) (hf1 : ∀ ad, A1 = some ad → 0 < l1.length → ad.block ≠ g) (h : bP_.f s0_0 s0_1 s0_2 l1 = some (r1, r2, r3)) :
  Calls Tryd.prog 47 #[.pointer (some ⟨g, 0, none⟩), .slice A1 l1.length c1] w fun e w' => e = .returned (.string r1) ∧ IsS82 w0 w' g s0_0 r2 r3 ∧ Below w0.heap.size w0 w' ∧ ac_ w w' g none := by
 have HR1 := Aside0.mk hr1
 have HC1 := Aside0.mk hc1
 clear hr1 hc1
 have HI0 := Aside0.mk hI
 have HK := Aside0.mk (ac_.refl w g none)
 have HL := Aside0.mk hB.size
 clear hI
 have HW0 := Aside0.mk hB.size
 have HB := Aside0.mk hB
 clear hB
 have H : ((aB_.f s0_0 s0_1 s0_2 (l1.length : Int)).bind fun bt101 => (if 0 ≤ bt101.1 then (if bt101.1 < (l1.length : Int) then (some (rdOf ByteArray.empty l1 bt101.1, bt101.2.1, bt101.2.2)) else (none)) else (none))) = some (r1, r2, r3) := h
 clear h
 replace H := Option.bind_eq_some_iff.mp H
 obtain ⟨⟨t101, t102, t103⟩, A30, H⟩ := H
 (try dsimp only at H)
 have A3 := Aside0.mk A30
 clear A30
 by_cases c4 : 0 ≤ t101
 rotate_left
 ·rw [if_neg c4] at H
  exact absurd H (by simp)
 rw [if_pos c4] at H
 have c4b0 : decide (0 ≤ t101) = true := decide_eq_true c4
 clear c4
 by_cases c5 : t101 < (l1.length : Int)
 rotate_left
 ·rw [if_neg c5] at H
  exact absurd H (by simp)
 rw [if_pos c5] at H
 have c5b0 : decide (t101 < (l1.length : Int)) = true := decide_eq_true c5
 clear c5
 simp only [Option.some.injEq, Prod.mk.injEq] at H
 obtain ⟨rfl, rfl, rfl⟩ := H
 go_enter Tryd.func47, Tryd.ntmps47
 go_wp2_with (first | ((with_reducible refine as_ (f := 46) rfl ?_); refine bw_ (some 9) rfl rfl Tryd.func46 (by kernel_rfl) rfl #[.pointer (some ⟨g, 0, none⟩), .int .i64 (l1.length : Int)] rfl (by first | rfl | (simp only [lma_, lmc_, lmn_]; first | done | rfl)) ?_; (with_reducible refine (aB_.calls g s0_0 s0_1 s0_2 (l1.length : Int) t101 t102 t103 w0 _ ?side1 ?side2 A3.out).mono ?_); (case side1 => repeat (first | (with_reducible first | exact HI0.out | apply IsS82.alloc | apply IsS82.drewN | apply IsS82.drew | apply IsS82.set_1 | apply IsS82.set_2) | exact HI0.out)); (case side2 => repeat (first | (with_reducible first | exact HB.out | apply bA_ | apply bN_ | apply bD_ | refine af_ ?_ (IsS82.ge HI0.out)) | exact HB.out)); rintro e w6 ⟨rfl, hi, hb, hk⟩; refine ⟨_, rfl, ?_⟩; replace HK := Aside0.mk (ac_.trans (by repeat (first | (with_reducible first | exact HK.out | apply ac_.set_ | apply ah_ | apply al_ | apply ai_) | exact HK.out)) hk (.inl rfl)); replace HB := Aside0.mk (hb); replace HI0 := Aside0.mk (hi); (try clear hb); have p104 : 0 ≤ (t101 : Int) := of_decide_eq_true (by assumption); have q104 : t101 < (l1.length : Int) := of_decide_eq_true (by assumption); obtain ⟨ad104, e104, hx104_0⟩ := Kd.cW_ HR1.out t101 p104 q104; cases e104; replace hx104_0 := keep_cell HK.out hx104_0 (by first | (rw [add_block]; exact hf1 _ rfl (by omega)) | exact hf1 _ rfl (by omega) | exact hf1 ad104 rfl (by omega)); replace p104 := eq_true p104; replace q104 := eq_true q104))
 go_ret
 exact ⟨by first | rfl | (simp [*, ap_, ao_] <;> rfl), by repeat (first | (with_reducible first | exact HI0.out | apply IsS82.alloc | apply IsS82.drewN | apply IsS82.drew | apply IsS82.set_1 | apply IsS82.set_2) | exact HI0.out), by repeat (first | (with_reducible first | exact HB.out | apply bA_ | apply bN_ | apply bD_ | refine af_ ?_ (IsS82.ge HI0.out)) | exact HB.out), by repeat (first | (with_reducible first | exact HK.out | apply ac_.set_ | apply ah_ | apply al_ | apply ai_) | exact HK.out)⟩
def by_.l0 : Nat → List (S48) → Int → List Int → Int → Int → Option ((List (S48)) × Int × Int)
 | 0, _, _, _, _, _ => none
 | k + 1, x3, x4, x1000, x1001, x1002 => if x4 > 0 then ((aB_.f x1000 x1001 x1002 (wrap64 ((x3.length : Int) + 1))).bind fun bt107 => ((ay_.f k x1000 bt107.2.1 bt107.2.2).bind fun bt110 => (if bt107.1 > 0 then (if 0 ≤ (wrap64 (bt107.1 - 1)) then (if (wrap64 (bt107.1 - 1)) < (x3.length : Int) then ((ax_.f k x1000 bt110.2.1 bt110.2.2 ((ar_ x3 (wrap64 (bt107.1 - 1))).f3)).bind fun bt116 => ((bP_.f x1000 bt116.2.1 bt116.2.2 (([(⟨#[]⟩ : ByteArray), (⟨#[110, 101, 119]⟩ : ByteArray), (⟨#[97, 32, 98]⟩ : ByteArray)] : List ByteArray))).bind fun bt125 => (if x3.length < 2513169434916 then (by_.l0 k (x3 ++ [(⟨wrap64 ((x3.length : Int) + 1), bt107.1, bt125.1, bt116.1⟩ : S48)]) (wrap64 (x4 - 1)) x1000 bt125.2.1 bt125.2.2) else (none)))) else (none)) else (none)) else ((bP_.f x1000 bt110.2.1 bt110.2.2 (([(⟨#[]⟩ : ByteArray), (⟨#[110, 101, 119]⟩ : ByteArray), (⟨#[97, 32, 98]⟩ : ByteArray)] : List ByteArray))).bind fun bt135 => (if x3.length < 2513169434916 then (by_.l0 k (x3 ++ [(⟨wrap64 ((x3.length : Int) + 1), bt107.1, bt135.1, bt110.1⟩ : S48)]) (wrap64 (x4 - 1)) x1000 bt135.2.1 bt135.2.2) else (none)))))) else (some (x3, x1001, x1002))
def by_.f (k : Nat) (s0_0 : List Int) (s0_1 : Int) (s0_2 : Int) : Option ((List (S48)) × Int × Int) := (aB_.f s0_0 s0_1 s0_2 6).bind fun bt104 => (by_.l0 k (([] : List (S48))) bt104.1 s0_0 bt104.2.1 bt104.2.2)
set_option maxHeartbeats 8000000 in
set_option maxRecDepth 100000 in
theorem by_.calls (k : Nat) (g : Nat) (s0_0 : List Int) (s0_1 : Int) (s0_2 : Int) (r1 : List (S48)) (r2 : Int) (r3 : Int) (w0 w : World) (hI : IsS82 w0 w g s0_0 s0_1 s0_2) (hB : Below w0.heap.size w0 w) (h : by_.f k s0_0 s0_1 s0_2 = some (r1, r2, r3)) :
  Calls Tryd.prog 21 #[.pointer (some ⟨g, 0, none⟩)] w fun e w' => ∃ v0_ : Value, e = .returned (v0_) ∧ Kd.S k48 48 w' w.heap.size (fun _ => True) v0_ r1 ∧ IsS82 w0 w' g s0_0 r2 r3 ∧ Below w0.heap.size w0 w' ∧ ac_ w w' g none := by
 have hu48 := Tryd.underlying48
 have HI0 := Aside0.mk hI
 have HK := Aside0.mk (ac_.refl w g none)
 have HL := Aside0.mk hB.size
 clear hI
 have HW0 := Aside0.mk hB.size
 have HB := Aside0.mk hB
 clear hB
 have H : ((aB_.f s0_0 s0_1 s0_2 6).bind fun bt104 => (by_.l0 k (([] : List (S48))) bt104.1 s0_0 bt104.2.1 bt104.2.2)) = some (r1, r2, r3) := h
 clear h
 obtain ⟨y101, hy101⟩ : ∃ y_ : List (S48), y_ = (([] : List (S48))) := ⟨_, rfl⟩
 replace H : ((aB_.f s0_0 s0_1 s0_2 6).bind fun bt104 => (by_.l0 k y101 bt104.1 s0_0 bt104.2.1 bt104.2.2)) = some (r1, r2, r3) := by first | (rw [hy101]; with_reducible exact H) | (have H2_ := (Option.bind_some _ _).symm.trans H; rw [hy101]; with_reducible exact H2_) | (have H2_ := (Option.bind_some _ _).symm.trans H; with_reducible exact H2_) | with_reducible exact H | (rw [hy101]; exact H) | exact H
 have Ny101 := Aside0.mk hy101
 clear hy101
 replace H := Option.bind_eq_some_iff.mp H
 obtain ⟨⟨t104, t105, t106⟩, A20, H⟩ := H
 (try dsimp only at H)
 have A2 := Aside0.mk A20
 clear A20
 have H' := Aside0.mk H
 clear H
 go_enter Tryd.func21, Tryd.ntmps21
 go_wp2_with (first | ((with_reducible refine aL_ (N := 9) rfl ?_); refine Kd.S_lit k48 _ 48 ?hg (N := 9) ?hd (xs := ([] : List (S48))) (inner := []) (ok := fun _ => True) (okp := fun _ => True) ?hr ?hp (fun _ hk => hk) trivial (Below.refl _ _) (Nat.le_refl _) (by simp) ?_; (case hd => rfl); (case hg => rfl); (case hr => (go_simp; try rfl)); (case hp => exact (Reps.none _ _)); intro v102 w3 ho4 hb hg_ hnew_; clear hg_ hnew_; (first | rw [← Ny101.out] at ho4 | (simp only [Int.reduceToNat] at ho4; rw [← Ny101.out] at ho4)); have HO103 := Aside0.mk (Kd.du_ ho4 (br_ (w := w) (g := g) (row := none) (by repeat (first | (with_reducible first | exact HK.out | apply ac_.set_ | apply ah_ | apply al_ | apply ai_) | exact HK.out)))); replace HK := Aside0.mk (ac_.trans (by repeat (first | (with_reducible first | exact HK.out | apply ac_.set_ | apply ah_ | apply al_ | apply ai_) | exact HK.out)) (ac_.of_below hb g none) (.inl rfl)); replace HB := Aside0.mk (ab_ (by repeat (first | (with_reducible first | exact HB.out | apply bA_ | apply bN_ | apply bD_ | refine af_ ?_ (IsS82.ge HI0.out)) | exact HB.out)) hb); replace HI0 := Aside0.mk (IsS82.below (by repeat (first | (with_reducible first | exact HI0.out | apply IsS82.alloc | apply IsS82.drewN | apply IsS82.drew | apply IsS82.set_1 | apply IsS82.set_2) | exact HI0.out)) hb); clear hb ho4) | ((with_reducible refine as_ (f := 46) rfl ?_); refine bw_ (some 11) rfl rfl Tryd.func46 (by kernel_rfl) rfl #[.pointer (some ⟨g, 0, none⟩), .int .i64 6] rfl (by first | rfl | (simp only [lma_, lmc_, lmn_]; first | done | rfl)) ?_; (with_reducible refine (aB_.calls g s0_0 s0_1 s0_2 6 t104 t105 t106 w0 _ ?side1 ?side2 A2.out).mono ?_); (case side1 => repeat (first | (with_reducible first | exact HI0.out | apply IsS82.alloc | apply IsS82.drewN | apply IsS82.drew | apply IsS82.set_1 | apply IsS82.set_2) | exact HI0.out)); (case side2 => repeat (first | (with_reducible first | exact HB.out | apply bA_ | apply bN_ | apply bD_ | refine af_ ?_ (IsS82.ge HI0.out)) | exact HB.out)); rintro e w5 ⟨rfl, hi, hb, hk⟩; refine ⟨_, rfl, ?_⟩; replace HO103 := Aside0.mk (Kd.bE_ (Kd.S_keep (IsS82.apartS (show IsS82 w0 _ g s0_0 s0_1 s0_2 from by repeat (first | (with_reducible first | exact HI0.out | apply IsS82.alloc | apply IsS82.drewN | apply IsS82.drew | apply IsS82.set_1 | apply IsS82.set_2) | exact HI0.out)) (sz HO103.out) (by decide)) hk (fun _ h => h.2)) (fun _ h => h.1)); replace HK := Aside0.mk (ac_.trans (by repeat (first | (with_reducible first | exact HK.out | apply ac_.set_ | apply ah_ | apply al_ | apply ai_) | exact HK.out)) hk (.inl rfl)); replace HB := Aside0.mk (hb); replace HI0 := Aside0.mk (hi); (try clear hb)))
 (try simp only [Act.put, lsa_, ls0_, ls1_])
 go_loopg [3, 4] k (fun kq v3 v4 w' => ∃ (x3_1 : List (S48)) (x4_1 : Int) (x1001_1 : Int) (x1002_1 : Int), v4 = .int .i64 x4_1 ∧ Aside0 (by_.l0 kq x3_1 x4_1 s0_0 x1001_1 x1002_1 = some (r1, r2, r3)) ∧ Aside0 (kq ≤ k) ∧ Aside0 (Kd.S k48 48 w' w.heap.size (fun _ => True) v3 x3_1) ∧ Aside0 (IsS82 w0 w' g s0_0 x1001_1 x1002_1) ∧ Aside0 (ac_ w w' g none) ∧ Aside0 (Below w0.heap.size w0 w'))
 case atStart => exact ⟨(y101), (t104), (t105), (t106), (by first | rfl | (simp; done) | (simp [*]; done)), H', ⟨Nat.le_refl _⟩, ⟨sz HO103.out⟩, ⟨by repeat (first | (with_reducible first | exact HI0.out | apply IsS82.alloc | apply IsS82.drewN | apply IsS82.drew | apply IsS82.set_1 | apply IsS82.set_2) | exact HI0.out)⟩, ⟨by repeat (first | (with_reducible first | exact HK.out | apply ac_.set_ | apply ah_ | apply al_ | apply ai_) | exact HK.out)⟩, ⟨by repeat (first | (with_reducible first | exact HB.out | apply bA_ | apply bN_ | apply bD_ | refine af_ ?_ (IsS82.ge HI0.out)) | exact HB.out)⟩⟩
 case round =>
  clear H'
  obtain ⟨x3_1, x4_1, x1001_1, x1002_1, rfl, HA, HK1, HO_3, HI0, HK, HB⟩ := hrel
  cases gk with
  | zero => exact absurd HA.out (by simp [by_.l0])
  | succ k1 =>
   have H := HA.out
   clear HA
   simp only [by_.l0] at H
   by_cases c6 : x4_1 > 0
   rotate_left
   ·rw [if_neg c6] at H
    have c6b0 : decide (0 < x4_1) = false := decide_eq_false c6
    clear c6
    simp only [Option.some.injEq, Prod.mk.injEq] at H
    obtain ⟨rfl, rfl, rfl⟩ := H
    go_wp2
    go_ret
    exact ⟨_, by first | rfl | (simp [*, ap_, ao_] <;> rfl), sz HO_3.out, by repeat (first | (with_reducible first | exact HI0.out | apply IsS82.alloc | apply IsS82.drewN | apply IsS82.drew | apply IsS82.set_1 | apply IsS82.set_2) | exact HI0.out), by repeat (first | (with_reducible first | exact HB.out | apply bA_ | apply bN_ | apply bD_ | refine af_ ?_ (IsS82.ge HI0.out)) | exact HB.out), by repeat (first | (with_reducible first | exact HK.out | apply ac_.set_ | apply ah_ | apply al_ | apply ai_) | exact HK.out)⟩
   rw [if_pos c6] at H
   have c6b0 : decide (0 < x4_1) = true := decide_eq_true c6
   clear c6
   replace H := Option.bind_eq_some_iff.mp H
   obtain ⟨⟨t107, t108, t109⟩, A70, H⟩ := H
   (try dsimp only at H)
   have A7 := Aside0.mk A70
   clear A70
   replace H := Option.bind_eq_some_iff.mp H
   obtain ⟨⟨t110, t113, t114⟩, A80, H⟩ := H
   (try dsimp only at H)
   have A8 := Aside0.mk A80
   clear A80
   have HC9 := Aside0.mk H
   clear H
   obtain ⟨Ao10, co10, eo10⟩ := Kd.do_ HO_3.out
   subst eo10
   go_upto_if 25 with (first | ((with_reducible refine as_ (f := 46) rfl ?_); refine bw_ (some 21) rfl rfl Tryd.func46 (by kernel_rfl) rfl #[.pointer (some ⟨g, 0, none⟩), .int .i64 (wrap64 ((x3_1.length : Int) + 1))] rfl (by first | rfl | (simp only [lma_, lmc_, lmn_]; first | done | rfl)) ?_; (with_reducible refine (aB_.calls g s0_0 x1001_1 x1002_1 (wrap64 ((x3_1.length : Int) + 1)) t107 t108 t109 w0 _ ?side1 ?side2 A7.out).mono ?_); (case side1 => repeat (first | (with_reducible first | exact HI0.out | apply IsS82.alloc | apply IsS82.drewN | apply IsS82.drew | apply IsS82.set_1 | apply IsS82.set_2) | exact HI0.out)); (case side2 => repeat (first | (with_reducible first | exact HB.out | apply bA_ | apply bN_ | apply bD_ | refine af_ ?_ (IsS82.ge HI0.out)) | exact HB.out)); rintro e w11 ⟨rfl, hi, hb, hk⟩; refine ⟨_, rfl, ?_⟩; replace HO_3 := Aside0.mk (Kd.bE_ (Kd.S_keep (IsS82.apartS (show IsS82 w0 _ g s0_0 x1001_1 x1002_1 from by repeat (first | (with_reducible first | exact HI0.out | apply IsS82.alloc | apply IsS82.drewN | apply IsS82.drew | apply IsS82.set_1 | apply IsS82.set_2) | exact HI0.out)) (sz HO_3.out) (by decide)) hk (fun _ h => h.2)) (fun _ h => h.1)); replace HK := Aside0.mk (ac_.trans (by repeat (first | (with_reducible first | exact HK.out | apply ac_.set_ | apply ah_ | apply al_ | apply ai_) | exact HK.out)) hk (.inl rfl)); replace HB := Aside0.mk (hb); replace HI0 := Aside0.mk (hi); (try clear hb)) | ((with_reducible refine as_ (f := 22) rfl ?_); refine bw_ (some 23) rfl rfl Tryd.func22 (by kernel_rfl) rfl #[.pointer (some ⟨g, 0, none⟩)] rfl (by first | rfl | (simp only [lma_, lmc_, lmn_]; first | done | rfl)) ?_; (with_reducible refine (ay_.calls k1 g s0_0 t108 t109 t110 t113 t114 w0 _ ?side1 ?side2 A8.out).mono ?_); (case side1 => repeat (first | (with_reducible first | exact HI0.out | apply IsS82.alloc | apply IsS82.drewN | apply IsS82.drew | apply IsS82.set_1 | apply IsS82.set_2) | exact HI0.out)); (case side2 => repeat (first | (with_reducible first | exact HB.out | apply bA_ | apply bN_ | apply bD_ | refine af_ ?_ (IsS82.ge HI0.out)) | exact HB.out)); rintro e w12 ⟨v111, rfl, ho0, hi, hb, hk⟩; refine ⟨_, rfl, ?_⟩; replace HO_3 := Aside0.mk (Kd.bE_ (Kd.S_told (Kd.S_oldK (IsS82.apartS (show IsS82 w0 _ g s0_0 t108 t109 from by repeat (first | (with_reducible first | exact HI0.out | apply IsS82.alloc | apply IsS82.drewN | apply IsS82.drew | apply IsS82.set_1 | apply IsS82.set_2) | exact HI0.out)) (sz HO_3.out) (by decide)) hk) (Kd.bh_ ho0)) (fun _ h_ => h_.1)); have HO112 := Aside0.mk (Kd.bi_ ho0 (br_ (w := w) (g := g) (row := none) (by repeat (first | (with_reducible first | exact HK.out | apply ac_.set_ | apply ah_ | apply al_ | apply ai_) | exact HK.out)))); replace HK := Aside0.mk (ac_.trans (by repeat (first | (with_reducible first | exact HK.out | apply ac_.set_ | apply ah_ | apply al_ | apply ai_) | exact HK.out)) hk (.inl rfl)); replace HB := Aside0.mk (hb); replace HI0 := Aside0.mk (hi); (try clear hb); (try clear ho0)))
   (try simp only [Act.put, lsa_, ls0_, ls1_])
   have H := HC9.out
   clear HC9
   by_cases c13 : t107 > 0
   rotate_left
   ·rw [if_neg c13] at H
    have c13b0 : decide (0 < t107) = false := decide_eq_false c13
    clear c13
    (first | rw [c13b0] | (simp only [i64_w, i32_w]; rw [c13b0]) | (simp only [c13b1, Bool.not_true, Bool.not_false]) | (simp only [c13b0, Bool.not_true, Bool.not_false]) | skip)
    obtain ⟨y132, hy132⟩ : ∃ y_ : List ByteArray, y_ = (([(⟨#[]⟩ : ByteArray), (⟨#[110, 101, 119]⟩ : ByteArray), (⟨#[97, 32, 98]⟩ : ByteArray)] : List ByteArray)) := ⟨_, rfl⟩
    replace H : ((bP_.f s0_0 t113 t114 y132).bind fun bt135 => (if x3_1.length < 2513169434916 then (by_.l0 k1 (x3_1 ++ [(⟨wrap64 ((x3_1.length : Int) + 1), t107, bt135.1, t110⟩ : S48)]) (wrap64 (x4_1 - 1)) s0_0 bt135.2.1 bt135.2.2) else (none))) = some (r1, r2, r3) := by first | (rw [hy132]; with_reducible exact H) | (have H2_ := (Option.bind_some _ _).symm.trans H; rw [hy132]; with_reducible exact H2_) | (have H2_ := (Option.bind_some _ _).symm.trans H; with_reducible exact H2_) | with_reducible exact H | (rw [hy132]; exact H) | exact H
    have Ny132 := Aside0.mk hy132
    clear hy132
    replace H := Option.bind_eq_some_iff.mp H
    obtain ⟨⟨t135, t136, t137⟩, A330, H⟩ := H
    (try dsimp only at H)
    have A33 := Aside0.mk A330
    clear A330
    by_cases c34 : x3_1.length < 2513169434916
    rotate_left
    ·rw [if_neg c34] at H
     exact absurd H (by simp)
    rw [if_pos c34] at H
    have LMc34 := Aside0.mk c34
    clear c34
    obtain ⟨y138, hy138⟩ : ∃ y_ : List (S48), y_ = (x3_1 ++ [(⟨wrap64 ((x3_1.length : Int) + 1), t107, t135, t110⟩ : S48)]) := ⟨_, rfl⟩
    replace H : (by_.l0 k1 y138 (wrap64 (x4_1 - 1)) s0_0 t136 t137) = some (r1, r2, r3) := by first | (rw [hy138]; with_reducible exact H) | (have H2_ := (Option.bind_some _ _).symm.trans H; rw [hy138]; with_reducible exact H2_) | (have H2_ := (Option.bind_some _ _).symm.trans H; with_reducible exact H2_) | with_reducible exact H | (rw [hy138]; exact H) | exact H
    have Ny138 := Aside0.mk hy138
    clear hy138
    have H' := Aside0.mk H
    clear H
    obtain ⟨Ao35, co35, eo35⟩ := Kd.bo_ HO112.out
    subst eo35
    go_wp2_with (first | ((with_reducible refine aL_ (N := 8) rfl ?_); refine bz_ ?hg (N := 8) ?hd (cs := #[.int .i64 0, .int .i64 0, .string (⟨#[]⟩ : ByteArray), .slice none 0 0]) (t := 48) ?hr ?_; (case hd => rfl); (case hg => rfl); (case hr => (go_simp; try rfl)); intro gb131 hg w36 hbox hb; replace HO_3 := Aside0.mk (Kd.bF_ (Kd.S_elderB (sz HO_3.out) gb131 (Nat.le_of_eq hg.symm)) hb); replace HO112 := Aside0.mk (Kd.aM_ (rz HO112.out) hb); replace HB := Aside0.mk (ab_ (by repeat (first | (with_reducible first | exact HB.out | apply bA_ | apply bN_ | apply bD_ | refine af_ ?_ (IsS82.ge HI0.out)) | exact HB.out)) hb); have BK131 := Aside0.mk (hbox); have GW131 := Aside0.mk ((by rw [hg]; exact (br_ (w := w) (g := g) (row := none) (by repeat (first | (with_reducible first | exact HK.out | apply ac_.set_ | apply ah_ | apply al_ | apply ai_) | exact HK.out))) : w.heap.size ≤ gb131)); have GE131 := Aside0.mk ((Nat.le_trans HW0.out (by rw [hg]; exact (br_ (w := w) (g := g) (row := none) (by repeat (first | (with_reducible first | exact HK.out | apply ac_.set_ | apply ah_ | apply al_ | apply ai_) | exact HK.out))) : w.heap.size ≤ gb131) : w0.heap.size ≤ gb131)); replace HK := Aside0.mk (ac_.trans (by repeat (first | (with_reducible first | exact HK.out | apply ac_.set_ | apply ah_ | apply al_ | apply ai_) | exact HK.out)) (ac_.of_below hb g none) (.inl rfl)); have NB0_131 := Aside0.mk ((by rw [hg]; exact Nat.ne_of_lt (IsS82.lt (show IsS82 w0 _ g s0_0 t113 t114 from by repeat (first | (with_reducible first | exact HI0.out | apply IsS82.alloc | apply IsS82.drewN | apply IsS82.drew | apply IsS82.set_1 | apply IsS82.set_2) | exact HI0.out))) : g ≠ gb131)); have NB131_0 := Aside0.mk ((by rw [hg]; exact Nat.ne_of_gt (IsS82.lt (show IsS82 w0 _ g s0_0 t113 t114 from by repeat (first | (with_reducible first | exact HI0.out | apply IsS82.alloc | apply IsS82.drewN | apply IsS82.drew | apply IsS82.set_1 | apply IsS82.set_2) | exact HI0.out))) : gb131 ≠ g)); replace HI0 := Aside0.mk (IsS82.below (by repeat (first | (with_reducible first | exact HI0.out | apply IsS82.alloc | apply IsS82.drewN | apply IsS82.drew | apply IsS82.set_1 | apply IsS82.set_2) | exact HI0.out)) hb); clear hb hbox hg; have hnb37 := NB131_0.out; have hnc37 := NB0_131.out; obtain ⟨hcz38_0, hcz38_1, hcz38_2, hcz38_3⟩ := cz4_ BK131.out; obtain ⟨hfz38_0, hfz38_1, hfz38_2, hfz38_3⟩ := fz4_ BK131.out) | ((with_reducible refine aL_ (N := 40) rfl ?_); refine Kd.R_lit Kd.string _ 9 ?hg (N := 40) ?hd (xs := ([(⟨#[]⟩ : ByteArray), (⟨#[110, 101, 119]⟩ : ByteArray), (⟨#[97, 32, 98]⟩ : ByteArray)] : List ByteArray)) (inner := [.string (⟨#[]⟩ : ByteArray), .string (⟨#[110, 101, 119]⟩ : ByteArray), .string (⟨#[97, 32, 98]⟩ : ByteArray)]) (ok := fun _ => True) (okp := fun _ => True) ?hr ?hp (fun _ hk => hk) trivial (Below.refl _ _) (Nat.le_refl _) (by simp) ?_; (case hd => rfl); (case hg => rfl); (case hr => (go_simp; try rfl)); (case hp => exact (Reps.one (show Kd.M Kd.string _ _ _ (⟨#[]⟩ : ByteArray) [.string (⟨#[]⟩ : ByteArray)] from rfl) (Reps.one (show Kd.M Kd.string _ _ _ (⟨#[110, 101, 119]⟩ : ByteArray) [.string (⟨#[110, 101, 119]⟩ : ByteArray)] from rfl) (Reps.one (show Kd.M Kd.string _ _ _ (⟨#[97, 32, 98]⟩ : ByteArray) [.string (⟨#[97, 32, 98]⟩ : ByteArray)] from rfl) (Reps.none _ _))))); intro v133 w39 ho40 hb hg_ hnew_; clear hg_ hnew_; (first | rw [← Ny132.out] at ho40 | (simp only [Int.reduceToNat] at ho40; rw [← Ny132.out] at ho40)); replace HO_3 := Aside0.mk (Kd.bF_ (sz (Kd.bE_ (Kd.S_far (p := ⟨gb131, 3, none⟩) (Kd.S_far (p := ⟨gb131, 2, none⟩) (Kd.S_far (p := ⟨gb131, 1, none⟩) (Kd.S_far (p := ⟨gb131, 0, none⟩) (Kd.bE_ HO_3.out (fun k_ hk => (⟨hk, hk.2⟩ : _ ∧ k_ ≠ gb131))) (fun _ hk => hk.2) (.int .i64 (wrap64 ((x3_1.length : Int) + 1)))) (fun _ hk => hk.2) (.int .i64 t107)) (fun _ hk => hk.2) (.string (⟨#[]⟩ : ByteArray))) (fun _ hk => hk.2) (.slice Ao35 t110.length co35)) (fun _ h_ => h_.1))) hb); replace HO112 := Aside0.mk (Kd.aM_ (rz (Kd.aT_ (Kd.R_far (p := ⟨gb131, 3, none⟩) (Kd.R_far (p := ⟨gb131, 2, none⟩) (Kd.R_far (p := ⟨gb131, 1, none⟩) (Kd.R_far (p := ⟨gb131, 0, none⟩) (Kd.cs_ HO112.out BK131.out (by decide)) (fun _ hk => hk.2) (.int .i64 (wrap64 ((x3_1.length : Int) + 1)))) (fun _ hk => hk.2) (.int .i64 t107)) (fun _ hk => hk.2) (.string (⟨#[]⟩ : ByteArray))) (fun _ hk => hk.2) (.slice Ao35 t110.length co35)) (fun _ h_ => h_.1))) hb); have HO134 := Aside0.mk (Kd.bi_ ho40 (br_ (w := w) (g := g) (row := none) (by repeat (first | (with_reducible first | exact HK.out | apply ac_.set_ | apply ah_ | apply al_ | apply ai_ | refine aC_ ?_ GW131.out _) | exact HK.out)))); replace BK131 := Aside0.mk (aS_ (g := gb131) (o := .cells #[.int .i64 (wrap64 ((x3_1.length : Int) + 1)), .int .i64 t107, .string (⟨#[]⟩ : ByteArray), .slice Ao35 t110.length co35] 48 (0, 0)) (by exact kj4_3 (kj4_2 (kj4_1 (kj4_0 (kz BK131.out))))) hb); replace HK := Aside0.mk (ac_.trans (by repeat (first | (with_reducible first | exact HK.out | apply ac_.set_ | apply ah_ | apply al_ | apply ai_ | refine aC_ ?_ GW131.out _) | exact HK.out)) (ac_.of_below hb g none) (.inl rfl)); replace HB := Aside0.mk (ab_ (by repeat (first | (with_reducible first | exact HB.out | apply bA_ | apply bN_ | apply bD_ | refine af_ ?_ (IsS82.ge HI0.out) | refine af_ ?_ GE131.out) | exact HB.out)) hb); replace HI0 := Aside0.mk (IsS82.below (show IsS82 w0 ((((w36.setCell ⟨gb131, 0, none⟩ (.int .i64 (wrap64 ((x3_1.length : Int) + 1)))).setCell ⟨gb131, 1, none⟩ (.int .i64 t107)).setCell ⟨gb131, 2, none⟩ (.string (⟨#[]⟩ : ByteArray))).setCell ⟨gb131, 3, none⟩ (.slice Ao35 t110.length co35)) g s0_0 t113 t114 from by repeat (first | (with_reducible first | exact HI0.out | apply IsS82.alloc | apply IsS82.drewN | apply IsS82.drew | apply IsS82.set_1 | apply IsS82.set_2 | refine IsS82.far ?_ NB0_131.out _) | exact HI0.out)) hb); clear hb ho40; obtain ⟨Ao41, co41, eo41⟩ := Kd.bo_ HO134.out; subst eo41) | ((with_reducible refine as_ (f := 47) rfl ?_); refine bw_ (some 41) rfl rfl Tryd.func47 (by kernel_rfl) rfl #[.pointer (some ⟨g, 0, none⟩), .slice Ao41 y132.length co41] rfl (by first | rfl | (simp only [lma_, lmc_, lmn_]; first | done | rfl)) ?_; (with_reducible refine (bP_.calls g s0_0 t113 t114 _ _ y132 t135 t136 t137 w0 _ ?side1 ?side2 ?side3 ?side4 ?side5 A33.out).mono ?_); (case side1 => repeat (first | (with_reducible first | exact HI0.out | apply IsS82.alloc | apply IsS82.drewN | apply IsS82.drew | apply IsS82.set_1 | apply IsS82.set_2 | refine IsS82.far ?_ NB0_131.out _) | exact HI0.out)); (case side2 => repeat (first | (with_reducible first | exact HB.out | apply bA_ | apply bN_ | apply bD_ | refine af_ ?_ (IsS82.ge HI0.out) | refine af_ ?_ GE131.out) | exact HB.out)); (case side3 => exact cz (Kd.aj_ HO134.out).2.2); (case side4 => exact (Kd.aj_ HO134.out).2.1); (case side5 => exact far_slice (IsS82.own_ne HI0.out HO134.out (by decide))); rintro e w42 ⟨rfl, hi, hb, hk⟩; refine ⟨_, rfl, ?_⟩; replace HO_3 := Aside0.mk (Kd.bE_ (Kd.S_keep (IsS82.apartS (show IsS82 w0 _ g s0_0 t113 t114 from by repeat (first | (with_reducible first | exact HI0.out | apply IsS82.alloc | apply IsS82.drewN | apply IsS82.drew | apply IsS82.set_1 | apply IsS82.set_2 | refine IsS82.far ?_ NB0_131.out _) | exact HI0.out)) (sz HO_3.out) (by decide)) hk (fun _ h => h.2)) (fun _ h => h.1)); replace HO112 := Aside0.mk (Kd.aT_ (Kd.df_ (IsS82.apart (show IsS82 w0 _ g s0_0 t113 t114 from by repeat (first | (with_reducible first | exact HI0.out | apply IsS82.alloc | apply IsS82.drewN | apply IsS82.drew | apply IsS82.set_1 | apply IsS82.set_2 | refine IsS82.far ?_ NB0_131.out _) | exact HI0.out)) (rz HO112.out) (by decide)) hk (fun _ h => h.2)) (fun _ h => h.1)); replace BK131 := Aside0.mk (ac_.blk hk (g' := gb131) (o := .cells #[.int .i64 (wrap64 ((x3_1.length : Int) + 1)), .int .i64 t107, .string (⟨#[]⟩ : ByteArray), .slice Ao35 t110.length co35] 48 (0, 0)) (kz BK131.out) NB131_0.out (by simp)); replace HO134 := Aside0.mk (Kd.aT_ (Kd.df_ (IsS82.apart (show IsS82 w0 _ g s0_0 t113 t114 from by repeat (first | (with_reducible first | exact HI0.out | apply IsS82.alloc | apply IsS82.drewN | apply IsS82.drew | apply IsS82.set_1 | apply IsS82.set_2 | refine IsS82.far ?_ NB0_131.out _) | exact HI0.out)) (rz HO134.out) (by decide)) hk (fun _ h => h.2)) (fun _ h => h.1)); replace HK := Aside0.mk (ac_.trans (by repeat (first | (with_reducible first | exact HK.out | apply ac_.set_ | apply ah_ | apply al_ | apply ai_ | refine aC_ ?_ GW131.out _) | exact HK.out)) hk (.inl rfl)); replace HB := Aside0.mk (hb); replace HI0 := Aside0.mk (hi); (try clear hb); obtain ⟨hcz43_0, hcz43_1, hcz43_2, hcz43_3⟩ := cz4_ BK131.out; obtain ⟨hfz43_0, hfz43_1, hfz43_2, hfz43_3⟩ := fz4_ BK131.out) | ((with_reducible refine gate_store (t := 9) (p := 42) rfl ?_); refine dA_ (t := 9) (p := 42) (v := ?vo_w44) (w1 := (w42.setCell ⟨gb131, 2, none⟩ (.string t135))) ?hg ?ho ?hn ?hr ?_; (case ho => rfl); (case hg => rfl); (case hn => rfl); (case hr => (go_simp; try rfl)); intro w44 hw; replace HO_3 : Aside0 (Kd.S k48 48 w44 w.heap.size (fun k_ => some k_ ≠ (.slice Ao35 t110.length co35 : Value).ownBlock ∧ k_ ≠ gb131) (.slice Ao10 x3_1.length co10) x3_1) := ⟨(by rw [hw]; exact (sz (Kd.bE_ (Kd.S_far (p := ⟨gb131, 2, none⟩) (Kd.bE_ HO_3.out (fun k_ hk => (⟨hk, hk.2⟩ : _ ∧ k_ ≠ gb131))) (fun _ hk => hk.2) (.string t135)) (fun _ hk => ⟨hk.1.1.2, hk.1.2⟩))))⟩; replace HO112 : Aside0 (Kd.R k59 59 w44 w.heap.size (fun _ => True) (.slice Ao35 t110.length co35) t110) := ⟨(by rw [hw]; exact (rz (Kd.aT_ (Kd.R_far (p := ⟨gb131, 2, none⟩) (Kd.cs_ HO112.out BK131.out (by decide)) (fun _ hk => hk.2) (.string t135)) (fun _ hk => trivial))))⟩; replace HO134 : Aside0 (Kd.R Kd.string 9 w44 w.heap.size (fun _ => True) (.slice Ao41 y132.length co41) y132) := ⟨(by rw [hw]; exact (rz (Kd.aT_ (Kd.R_far (p := ⟨gb131, 2, none⟩) (Kd.cs_ HO134.out BK131.out (by decide)) (fun _ hk => hk.2) (.string t135)) (fun _ hk => trivial))))⟩; replace BK131 : Aside0 (w44.heap[gb131]? = some (.cells #[.int .i64 (wrap64 ((x3_1.length : Int) + 1)), .int .i64 t107, .string t135, .slice Ao35 t110.length co35] 48 (0, 0))) := ⟨(by rw [hw]; exact (by exact kj4_2 (kz BK131.out)))⟩; replace HK : Aside0 (ac_ w w44 g none) := ⟨(by rw [hw]; exact (by repeat (first | (with_reducible first | exact HK.out | apply ac_.set_ | apply ah_ | apply al_ | apply ai_ | refine aC_ ?_ GW131.out _) | exact HK.out)))⟩; replace HB : Aside0 (Below w0.heap.size w0 w44) := ⟨(by rw [hw]; exact (by repeat (first | (with_reducible first | exact HB.out | apply bA_ | apply bN_ | apply bD_ | refine af_ ?_ (IsS82.ge HI0.out) | refine af_ ?_ GE131.out) | exact HB.out)))⟩; replace HI0 : Aside0 (IsS82 w0 w44 g s0_0 t136 t137) := ⟨(by rw [hw]; exact (by repeat (first | (with_reducible first | exact HI0.out | apply IsS82.alloc | apply IsS82.drewN | apply IsS82.drew | apply IsS82.set_1 | apply IsS82.set_2 | refine IsS82.far ?_ NB0_131.out _) | exact HI0.out)))⟩; clear hw; obtain ⟨hcz45_0, hcz45_1, hcz45_2, hcz45_3⟩ := cz4_ BK131.out; obtain ⟨hfz45_0, hfz45_1, hfz45_2, hfz45_3⟩ := fz4_ BK131.out) | ((with_reducible refine bs_ (b := .append) (xs := #[.tmp 43, .tmp 45]) rfl ?_); at_builtin; refine Kd.S_append k48 w.heap.size rfl (.tmp 43) (.tmp 45) 24 48 (.agg #[(.int .i64 0), (.int .i64 0), (.string ⟨#[]⟩), (.slice none 0 0)]) 56 rfl Tryd.underlying24 info48 rfl (by decide) (by omega) (.slice Ao10 x3_1.length co10) x3_1 (⟨wrap64 ((x3_1.length : Int) + 1), t107, t135, t110⟩ : S48) [.int .i64 (wrap64 ((x3_1.length : Int) + 1)), .int .i64 t107, .string t135, .slice Ao35 t110.length co35] (fun k_ => k_ ≠ gb131) (fun k_ => some k_ = (.slice Ao35 t110.length co35 : Value).ownBlock) rfl rfl ?aP (fun k_ hk_ => ((Kd.aT_ (ok' := fun k_ => ((fun k_ => k_ ≠ gb131)) k_ ∧ some k_ ≠ (.slice Ao10 x3_1.length co10 : Value).ownBlock) (Kd.cs_ (Kd.R_apart' (HO112.out) (Kd.S_typed HO_3.out) (by decide)) BK131.out (by decide)) (fun k_ hk => ⟨hk.2, hk.1.2⟩))).1 k_ hk_.symm) ?aF ?aO (Below.refl _ _) ?aS ?aL ?_; (case aP => exact k48_mkM _ _ _ (⟨wrap64 ((x3_1.length : Int) + 1), t107, t135, t110⟩ : S48) (Kd.aT_ (Kd.dy_ rfl (Kd.aT_ (ok' := fun k_ => ((fun k_ => k_ ≠ gb131)) k_ ∧ some k_ ≠ (.slice Ao10 x3_1.length co10 : Value).ownBlock) (Kd.cs_ (Kd.R_apart' (HO112.out) (Kd.S_typed HO_3.out) (by decide)) BK131.out (by decide)) (fun k_ hk => ⟨hk.2, hk.1.2⟩))) (fun _ h_ => h_))); (case aF => exact (fun k_ hk => Kd.dD_ (g := gb131) (o := .cells #[.int .i64 (wrap64 ((x3_1.length : Int) + 1)), .int .i64 t107, .string t135, .slice Ao35 t110.length co35] 48 (0, 0)) (kz BK131.out) k_ hk)); (case aO => exact (sz (Kd.bE_ HO_3.out (fun k_ hk => ⟨hk.2, fun e_ => hk.1 e_⟩)))); (case aS => exact (br_ (w := w) (g := g) (row := none) (by repeat (first | (with_reducible first | exact HK.out | apply ac_.set_ | apply ah_ | apply al_ | apply ai_ | refine aC_ ?_ GW131.out _) | exact HK.out)))); (case aL => have := LMc34.out; omega); intro v139 w46 ho hb hg hat; rw [← Ny138.out] at ho; replace BK131 := Aside0.mk (ce_ (g := gb131) (o := .cells #[.int .i64 (wrap64 ((x3_1.length : Int) + 1)), .int .i64 t107, .string t135, .slice Ao35 t110.length co35] 48 (0, 0)) (kz BK131.out) hg (Kd.S_away HO_3.out (fun _ hk => hk.2))); replace HO134 := Aside0.mk (Kd.R_over' (rz HO134.out) (Kd.S_typed (sz HO_3.out)) (by decide) hg); replace HB := Aside0.mk (ds_ (by repeat (first | (with_reducible first | exact HB.out | apply bA_ | apply bN_ | apply bD_ | refine af_ ?_ (IsS82.ge HI0.out) | refine af_ ?_ GE131.out) | exact HB.out)) HL.out hb); replace HI0 := Aside0.mk (IsS82.grown (by repeat (first | (with_reducible first | exact HI0.out | apply IsS82.alloc | apply IsS82.drewN | apply IsS82.drew | apply IsS82.set_1 | apply IsS82.set_2 | refine IsS82.far ?_ NB0_131.out _) | exact HI0.out)) hg (IsS82.own_neS HI0.out HO_3.out (by decide))); replace HK := Aside0.mk (ac_.trans (by repeat (first | (with_reducible first | exact HK.out | apply ac_.set_ | apply ah_ | apply al_ | apply ai_ | refine aC_ ?_ GW131.out _) | exact HK.out)) (ac_.of_grown hg g) (Kd.S_base2 HO_3.out)); have HO140 := Aside0.mk (ho); clear HO_3; clear HO112; clear ho hb hg hat))
    go_roundg k1
    case measure => have := HK1.out; omega
    case rel => exact ⟨(y138), (wrap64 (x4_1 - 1)), (t136), (t137), (by first | rfl | (simp; done) | (simp [*]; done)), H', ⟨by have := HK1.out; omega⟩, ⟨sz (Kd.bE_ HO140.out (fun _ hk => trivial))⟩, ⟨by repeat (first | (with_reducible first | exact HI0.out | apply IsS82.alloc | apply IsS82.drewN | apply IsS82.drew | apply IsS82.set_1 | apply IsS82.set_2 | refine IsS82.far ?_ NB0_131.out _) | exact HI0.out)⟩, ⟨by repeat (first | (with_reducible first | exact HK.out | apply ac_.set_ | apply ah_ | apply al_ | apply ai_ | refine aC_ ?_ GW131.out _) | exact HK.out)⟩, ⟨by repeat (first | (with_reducible first | exact HB.out | apply bA_ | apply bN_ | apply bD_ | refine af_ ?_ (IsS82.ge HI0.out) | refine af_ ?_ GE131.out) | exact HB.out)⟩⟩
   rw [if_pos c13] at H
   have c13b0 : decide (0 < t107) = true := decide_eq_true c13
   clear c13
   (first | rw [c13b0] | (simp only [i64_w, i32_w]; rw [c13b0]) | (simp only [c13b1, Bool.not_true, Bool.not_false]) | (simp only [c13b0, Bool.not_true, Bool.not_false]) | skip)
   obtain ⟨ji14, hji14⟩ : ∃ j_ : Int, (wrap64 (t107 - 1)) = j_ := ⟨_, rfl⟩
   replace H : (if 0 ≤ (ji14) then (if (ji14) < (x3_1.length : Int) then ((ax_.f k1 s0_0 t113 t114 ((ar_ x3_1 (ji14)).f3)).bind fun bt116 => ((bP_.f s0_0 bt116.2.1 bt116.2.2 (([(⟨#[]⟩ : ByteArray), (⟨#[110, 101, 119]⟩ : ByteArray), (⟨#[97, 32, 98]⟩ : ByteArray)] : List ByteArray))).bind fun bt125 => (if x3_1.length < 2513169434916 then (by_.l0 k1 (x3_1 ++ [(⟨wrap64 ((x3_1.length : Int) + 1), t107, bt125.1, bt116.1⟩ : S48)]) (wrap64 (x4_1 - 1)) s0_0 bt125.2.1 bt125.2.2) else (none)))) else (none)) else (none)) = some (r1, r2, r3) := by first | (rw [hji14] at H; exact H) | (simp only [hji14] at H ⊢; exact H)
   have hji14w : (IntKind.i64.wrap (t107 - 1)) = ji14 := (i64_w _).trans hji14
   by_cases c15 : 0 ≤ (ji14)
   rotate_left
   ·rw [if_neg c15] at H
    exact absurd H (by simp)
   rw [if_pos c15] at H
   have c15b0 : decide (0 ≤ (ji14)) = true := decide_eq_true c15
   clear c15
   by_cases c16 : (ji14) < (x3_1.length : Int)
   rotate_left
   ·rw [if_neg c16] at H
    exact absurd H (by simp)
   rw [if_pos c16] at H
   have c16b0 : decide ((ji14) < (x3_1.length : Int)) = true := decide_eq_true c16
   clear c16
   replace H := Option.bind_eq_some_iff.mp H
   obtain ⟨⟨t116, t119, t120⟩, A170, H⟩ := H
   (try dsimp only at H)
   have A17 := Aside0.mk A170
   clear A170
   obtain ⟨y122, hy122⟩ : ∃ y_ : List ByteArray, y_ = (([(⟨#[]⟩ : ByteArray), (⟨#[110, 101, 119]⟩ : ByteArray), (⟨#[97, 32, 98]⟩ : ByteArray)] : List ByteArray)) := ⟨_, rfl⟩
   replace H : ((bP_.f s0_0 t119 t120 y122).bind fun bt125 => (if x3_1.length < 2513169434916 then (by_.l0 k1 (x3_1 ++ [(⟨wrap64 ((x3_1.length : Int) + 1), t107, bt125.1, t116⟩ : S48)]) (wrap64 (x4_1 - 1)) s0_0 bt125.2.1 bt125.2.2) else (none))) = some (r1, r2, r3) := by first | (rw [hy122]; with_reducible exact H) | (have H2_ := (Option.bind_some _ _).symm.trans H; rw [hy122]; with_reducible exact H2_) | (have H2_ := (Option.bind_some _ _).symm.trans H; with_reducible exact H2_) | with_reducible exact H | (rw [hy122]; exact H) | exact H
   have Ny122 := Aside0.mk hy122
   clear hy122
   replace H := Option.bind_eq_some_iff.mp H
   obtain ⟨⟨t125, t126, t127⟩, A180, H⟩ := H
   (try dsimp only at H)
   have A18 := Aside0.mk A180
   clear A180
   by_cases c19 : x3_1.length < 2513169434916
   rotate_left
   ·rw [if_neg c19] at H
    exact absurd H (by simp)
   rw [if_pos c19] at H
   have LMc19 := Aside0.mk c19
   clear c19
   obtain ⟨y128, hy128⟩ : ∃ y_ : List (S48), y_ = (x3_1 ++ [(⟨wrap64 ((x3_1.length : Int) + 1), t107, t125, t116⟩ : S48)]) := ⟨_, rfl⟩
   replace H : (by_.l0 k1 y128 (wrap64 (x4_1 - 1)) s0_0 t126 t127) = some (r1, r2, r3) := by first | (rw [hy128]; with_reducible exact H) | (have H2_ := (Option.bind_some _ _).symm.trans H; rw [hy128]; with_reducible exact H2_) | (have H2_ := (Option.bind_some _ _).symm.trans H; with_reducible exact H2_) | with_reducible exact H | (rw [hy128]; exact H) | exact H
   have Ny128 := Aside0.mk hy128
   clear hy128
   have H' := Aside0.mk H
   clear H
   have p115 : 0 ≤ ((ji14) : Int) := of_decide_eq_true (by assumption)
   have q115 : (ji14) < (x3_1.length : Int) := of_decide_eq_true (by assumption)
   obtain ⟨ad115, A115_3, c115_3, e115, hx115_0, hx115_1, hx115_2, hx115_3, hl115_3, hi115_3⟩ := da_ (Kd.bp_ HO_3.out).2.2 (ji14) p115 q115
   cases e115
   obtain ⟨ce115, hce115, hMe115, hcc115⟩ := Kd.S_get HO_3.out z48 (ji14) p115 (by first | exact q115 | exact of_decide_eq_true (by assumption) | (have e_ := (Kd.bp_ HO_3.out).1; omega))
   obtain ⟨ve115_3, rfl, ge115_3⟩ := dC_ hMe115
   have hv115_3 := hcc115 3 _ rfl
   rw [cd_ _ _ 3 (by omega)] at hv115_3
   replace hv115_3 := Option.some.inj (hv115_3.symm.trans hx115_3)
   rw [hv115_3] at ge115_3
   have HL115_3 := Aside0.mk (show Kd.R k59 59 _ _ _ _ ((ar_ x3_1 (ji14)).f3) from ge115_3)
   clear hv115_3 ge115_3
   clear hcc115 hce115
   have HR115_3 := Aside0.mk hi115_3
   have HC115_3 := Aside0.mk hl115_3
   clear hi115_3 hl115_3
   replace p115 := eq_true p115
   replace q115 := eq_true q115
   go_wp2_with (first | ((with_reducible refine as_ (f := 23) rfl ?_); refine bw_ (some 33) rfl rfl Tryd.func23 (by kernel_rfl) rfl #[.pointer (some ⟨g, 0, none⟩), .slice A115_3 ((ar_ x3_1 (ji14)).f3).length c115_3] rfl (by (try simp only [List.map_toArray, List.map_cons, List.map_nil]); first | done | (simp only [hji14]; rfl) | rfl | (simp only [List.length_drop, List.length_take]; rfl)) ?_; (with_reducible refine (ax_.calls k1 g s0_0 t113 t114 _ _ ((ar_ x3_1 (ji14)).f3) t116 t119 t120 w0 _ ?side1 ?side2 ?side3 ?side4 A17.out).mono ?_); (case side1 => repeat (first | (with_reducible first | exact HI0.out | apply IsS82.alloc | apply IsS82.drewN | apply IsS82.drew | apply IsS82.set_1 | apply IsS82.set_2) | exact HI0.out)); (case side2 => repeat (first | (with_reducible first | exact HB.out | apply bA_ | apply bN_ | apply bD_ | refine af_ ?_ (IsS82.ge HI0.out)) | exact HB.out)); (case side3 => exact Kd.C_foot_own (IsS82.apart (show IsS82 w0 _ g s0_0 t113 t114 from by repeat (first | (with_reducible first | exact HI0.out | apply IsS82.alloc | apply IsS82.drewN | apply IsS82.drew | apply IsS82.set_1 | apply IsS82.set_2) | exact HI0.out)) (rz HL115_3.out) (by decide)) (fun _ h_ => h_.2)); (case side4 => exact HC115_3.out); rintro e w20 ⟨v117, rfl, ho0, hi, hb, hk⟩; refine ⟨_, rfl, ?_⟩; replace HO_3 := Aside0.mk (Kd.bE_ (Kd.S_told (Kd.S_oldK (IsS82.apartS (show IsS82 w0 _ g s0_0 t113 t114 from by repeat (first | (with_reducible first | exact HI0.out | apply IsS82.alloc | apply IsS82.drewN | apply IsS82.drew | apply IsS82.set_1 | apply IsS82.set_2) | exact HI0.out)) (sz HO_3.out) (by decide)) hk) (Kd.bh_ ho0)) (fun _ h_ => h_.1)); have HO118 := Aside0.mk (Kd.bi_ (Kd.bG_ (Kd.bG_ ho0 (Kd.R_lt (rz HO112.out))) (Kd.R_lt (rz HL115_3.out))) (br_ (w := w) (g := g) (row := none) (by repeat (first | (with_reducible first | exact HK.out | apply ac_.set_ | apply ah_ | apply al_ | apply ai_) | exact HK.out)))); replace HO112 := Aside0.mk (Kd.aT_ (Kd.R_told (Kd.R_oldK (IsS82.apart (show IsS82 w0 _ g s0_0 t113 t114 from by repeat (first | (with_reducible first | exact HI0.out | apply IsS82.alloc | apply IsS82.drewN | apply IsS82.drew | apply IsS82.set_1 | apply IsS82.set_2) | exact HI0.out)) (rz HO112.out) (by decide)) hk) (Kd.bh_ ho0)) (fun _ h_ => h_.1)); replace HL115_3 := Aside0.mk (Kd.aT_ (Kd.R_told (Kd.R_oldK (IsS82.apart (show IsS82 w0 _ g s0_0 t113 t114 from by repeat (first | (with_reducible first | exact HI0.out | apply IsS82.alloc | apply IsS82.drewN | apply IsS82.drew | apply IsS82.set_1 | apply IsS82.set_2) | exact HI0.out)) (rz HL115_3.out) (by decide)) hk) (Kd.bh_ ho0)) (fun _ h_ => h_.1)); replace HK := Aside0.mk (ac_.trans (by repeat (first | (with_reducible first | exact HK.out | apply ac_.set_ | apply ah_ | apply al_ | apply ai_) | exact HK.out)) hk (.inl rfl)); replace HB := Aside0.mk (hb); replace HI0 := Aside0.mk (hi); (try clear hb); (try clear ho0); obtain ⟨Ao21, co21, eo21⟩ := Kd.bo_ HO118.out; subst eo21) | ((with_reducible refine aL_ (N := 8) rfl ?_); refine bz_ ?hg (N := 8) ?hd (cs := #[.int .i64 0, .int .i64 0, .string (⟨#[]⟩ : ByteArray), .slice none 0 0]) (t := 48) ?hr ?_; (case hd => rfl); (case hg => rfl); (case hr => (go_simp; try rfl)); intro gb121 hg w22 hbox hb; replace HO_3 := Aside0.mk (Kd.bF_ (Kd.S_elderB (sz HO_3.out) gb121 (Nat.le_of_eq hg.symm)) hb); replace HO112 := Aside0.mk (Kd.aM_ (rz HO112.out) hb); replace HL115_3 := Aside0.mk (Kd.aM_ (rz HL115_3.out) hb); replace HO118 := Aside0.mk (Kd.aM_ (rz HO118.out) hb); replace HB := Aside0.mk (ab_ (by repeat (first | (with_reducible first | exact HB.out | apply bA_ | apply bN_ | apply bD_ | refine af_ ?_ (IsS82.ge HI0.out)) | exact HB.out)) hb); have BK121 := Aside0.mk (hbox); have GW121 := Aside0.mk ((by rw [hg]; exact (br_ (w := w) (g := g) (row := none) (by repeat (first | (with_reducible first | exact HK.out | apply ac_.set_ | apply ah_ | apply al_ | apply ai_) | exact HK.out))) : w.heap.size ≤ gb121)); have GE121 := Aside0.mk ((Nat.le_trans HW0.out (by rw [hg]; exact (br_ (w := w) (g := g) (row := none) (by repeat (first | (with_reducible first | exact HK.out | apply ac_.set_ | apply ah_ | apply al_ | apply ai_) | exact HK.out))) : w.heap.size ≤ gb121) : w0.heap.size ≤ gb121)); replace HK := Aside0.mk (ac_.trans (by repeat (first | (with_reducible first | exact HK.out | apply ac_.set_ | apply ah_ | apply al_ | apply ai_) | exact HK.out)) (ac_.of_below hb g none) (.inl rfl)); have NB0_121 := Aside0.mk ((by rw [hg]; exact Nat.ne_of_lt (IsS82.lt (show IsS82 w0 _ g s0_0 t119 t120 from by repeat (first | (with_reducible first | exact HI0.out | apply IsS82.alloc | apply IsS82.drewN | apply IsS82.drew | apply IsS82.set_1 | apply IsS82.set_2) | exact HI0.out))) : g ≠ gb121)); have NB121_0 := Aside0.mk ((by rw [hg]; exact Nat.ne_of_gt (IsS82.lt (show IsS82 w0 _ g s0_0 t119 t120 from by repeat (first | (with_reducible first | exact HI0.out | apply IsS82.alloc | apply IsS82.drewN | apply IsS82.drew | apply IsS82.set_1 | apply IsS82.set_2) | exact HI0.out))) : gb121 ≠ g)); replace HI0 := Aside0.mk (IsS82.below (by repeat (first | (with_reducible first | exact HI0.out | apply IsS82.alloc | apply IsS82.drewN | apply IsS82.drew | apply IsS82.set_1 | apply IsS82.set_2) | exact HI0.out)) hb); clear hb hbox hg; have hnb23 := NB121_0.out; have hnc23 := NB0_121.out; obtain ⟨hcz24_0, hcz24_1, hcz24_2, hcz24_3⟩ := cz4_ BK121.out; obtain ⟨hfz24_0, hfz24_1, hfz24_2, hfz24_3⟩ := fz4_ BK121.out) | ((with_reducible refine aL_ (N := 40) rfl ?_); refine Kd.R_lit Kd.string _ 9 ?hg (N := 40) ?hd (xs := ([(⟨#[]⟩ : ByteArray), (⟨#[110, 101, 119]⟩ : ByteArray), (⟨#[97, 32, 98]⟩ : ByteArray)] : List ByteArray)) (inner := [.string (⟨#[]⟩ : ByteArray), .string (⟨#[110, 101, 119]⟩ : ByteArray), .string (⟨#[97, 32, 98]⟩ : ByteArray)]) (ok := fun _ => True) (okp := fun _ => True) ?hr ?hp (fun _ hk => hk) trivial (Below.refl _ _) (Nat.le_refl _) (by simp) ?_; (case hd => rfl); (case hg => rfl); (case hr => (go_simp; try rfl)); (case hp => exact (Reps.one (show Kd.M Kd.string _ _ _ (⟨#[]⟩ : ByteArray) [.string (⟨#[]⟩ : ByteArray)] from rfl) (Reps.one (show Kd.M Kd.string _ _ _ (⟨#[110, 101, 119]⟩ : ByteArray) [.string (⟨#[110, 101, 119]⟩ : ByteArray)] from rfl) (Reps.one (show Kd.M Kd.string _ _ _ (⟨#[97, 32, 98]⟩ : ByteArray) [.string (⟨#[97, 32, 98]⟩ : ByteArray)] from rfl) (Reps.none _ _))))); intro v123 w25 ho26 hb hg_ hnew_; clear hg_ hnew_; (first | rw [← Ny122.out] at ho26 | (simp only [Int.reduceToNat] at ho26; rw [← Ny122.out] at ho26)); replace HO_3 := Aside0.mk (Kd.bF_ (sz (Kd.bE_ (Kd.S_far (p := ⟨gb121, 3, none⟩) (Kd.S_far (p := ⟨gb121, 2, none⟩) (Kd.S_far (p := ⟨gb121, 1, none⟩) (Kd.S_far (p := ⟨gb121, 0, none⟩) (Kd.bE_ HO_3.out (fun k_ hk => (⟨hk, hk.2⟩ : _ ∧ k_ ≠ gb121))) (fun _ hk => hk.2) (.int .i64 (wrap64 ((x3_1.length : Int) + 1)))) (fun _ hk => hk.2) (.int .i64 t107)) (fun _ hk => hk.2) (.string (⟨#[]⟩ : ByteArray))) (fun _ hk => hk.2) (.slice Ao21 t116.length co21)) (fun _ h_ => h_.1))) hb); replace HO112 := Aside0.mk (Kd.aM_ (rz (Kd.aT_ (Kd.R_far (p := ⟨gb121, 3, none⟩) (Kd.R_far (p := ⟨gb121, 2, none⟩) (Kd.R_far (p := ⟨gb121, 1, none⟩) (Kd.R_far (p := ⟨gb121, 0, none⟩) (Kd.cs_ HO112.out BK121.out (by decide)) (fun _ hk => hk.2) (.int .i64 (wrap64 ((x3_1.length : Int) + 1)))) (fun _ hk => hk.2) (.int .i64 t107)) (fun _ hk => hk.2) (.string (⟨#[]⟩ : ByteArray))) (fun _ hk => hk.2) (.slice Ao21 t116.length co21)) (fun _ h_ => h_.1))) hb); replace HL115_3 := Aside0.mk (Kd.aM_ (rz (Kd.aT_ (Kd.R_far (p := ⟨gb121, 3, none⟩) (Kd.R_far (p := ⟨gb121, 2, none⟩) (Kd.R_far (p := ⟨gb121, 1, none⟩) (Kd.R_far (p := ⟨gb121, 0, none⟩) (Kd.cs_ HL115_3.out BK121.out (by decide)) (fun _ hk => hk.2) (.int .i64 (wrap64 ((x3_1.length : Int) + 1)))) (fun _ hk => hk.2) (.int .i64 t107)) (fun _ hk => hk.2) (.string (⟨#[]⟩ : ByteArray))) (fun _ hk => hk.2) (.slice Ao21 t116.length co21)) (fun _ h_ => h_.1))) hb); replace HO118 := Aside0.mk (Kd.aM_ (rz (Kd.aT_ (Kd.R_far (p := ⟨gb121, 3, none⟩) (Kd.R_far (p := ⟨gb121, 2, none⟩) (Kd.R_far (p := ⟨gb121, 1, none⟩) (Kd.R_far (p := ⟨gb121, 0, none⟩) (Kd.cs_ HO118.out BK121.out (by decide)) (fun _ hk => hk.2) (.int .i64 (wrap64 ((x3_1.length : Int) + 1)))) (fun _ hk => hk.2) (.int .i64 t107)) (fun _ hk => hk.2) (.string (⟨#[]⟩ : ByteArray))) (fun _ hk => hk.2) (.slice Ao21 t116.length co21)) (fun _ h_ => h_.1))) hb); have HO124 := Aside0.mk (Kd.bi_ ho26 (br_ (w := w) (g := g) (row := none) (by repeat (first | (with_reducible first | exact HK.out | apply ac_.set_ | apply ah_ | apply al_ | apply ai_ | refine aC_ ?_ GW121.out _) | exact HK.out)))); replace BK121 := Aside0.mk (aS_ (g := gb121) (o := .cells #[.int .i64 (wrap64 ((x3_1.length : Int) + 1)), .int .i64 t107, .string (⟨#[]⟩ : ByteArray), .slice Ao21 t116.length co21] 48 (0, 0)) (by exact kj4_3 (kj4_2 (kj4_1 (kj4_0 (kz BK121.out))))) hb); replace HK := Aside0.mk (ac_.trans (by repeat (first | (with_reducible first | exact HK.out | apply ac_.set_ | apply ah_ | apply al_ | apply ai_ | refine aC_ ?_ GW121.out _) | exact HK.out)) (ac_.of_below hb g none) (.inl rfl)); replace HB := Aside0.mk (ab_ (by repeat (first | (with_reducible first | exact HB.out | apply bA_ | apply bN_ | apply bD_ | refine af_ ?_ (IsS82.ge HI0.out) | refine af_ ?_ GE121.out) | exact HB.out)) hb); replace HI0 := Aside0.mk (IsS82.below (show IsS82 w0 ((((w22.setCell ⟨gb121, 0, none⟩ (.int .i64 (wrap64 ((x3_1.length : Int) + 1)))).setCell ⟨gb121, 1, none⟩ (.int .i64 t107)).setCell ⟨gb121, 2, none⟩ (.string (⟨#[]⟩ : ByteArray))).setCell ⟨gb121, 3, none⟩ (.slice Ao21 t116.length co21)) g s0_0 t119 t120 from by repeat (first | (with_reducible first | exact HI0.out | apply IsS82.alloc | apply IsS82.drewN | apply IsS82.drew | apply IsS82.set_1 | apply IsS82.set_2 | refine IsS82.far ?_ NB0_121.out _) | exact HI0.out)) hb); clear hb ho26; obtain ⟨Ao27, co27, eo27⟩ := Kd.bo_ HO124.out; subst eo27) | ((with_reducible refine as_ (f := 47) rfl ?_); refine bw_ (some 41) rfl rfl Tryd.func47 (by kernel_rfl) rfl #[.pointer (some ⟨g, 0, none⟩), .slice Ao27 y122.length co27] rfl (by first | rfl | (simp only [lma_, lmc_, lmn_]; first | done | rfl)) ?_; (with_reducible refine (bP_.calls g s0_0 t119 t120 _ _ y122 t125 t126 t127 w0 _ ?side1 ?side2 ?side3 ?side4 ?side5 A18.out).mono ?_); (case side1 => repeat (first | (with_reducible first | exact HI0.out | apply IsS82.alloc | apply IsS82.drewN | apply IsS82.drew | apply IsS82.set_1 | apply IsS82.set_2 | refine IsS82.far ?_ NB0_121.out _) | exact HI0.out)); (case side2 => repeat (first | (with_reducible first | exact HB.out | apply bA_ | apply bN_ | apply bD_ | refine af_ ?_ (IsS82.ge HI0.out) | refine af_ ?_ GE121.out) | exact HB.out)); (case side3 => exact cz (Kd.aj_ HO124.out).2.2); (case side4 => exact (Kd.aj_ HO124.out).2.1); (case side5 => exact far_slice (IsS82.own_ne HI0.out HO124.out (by decide))); rintro e w28 ⟨rfl, hi, hb, hk⟩; refine ⟨_, rfl, ?_⟩; replace HO_3 := Aside0.mk (Kd.bE_ (Kd.S_keep (IsS82.apartS (show IsS82 w0 _ g s0_0 t119 t120 from by repeat (first | (with_reducible first | exact HI0.out | apply IsS82.alloc | apply IsS82.drewN | apply IsS82.drew | apply IsS82.set_1 | apply IsS82.set_2 | refine IsS82.far ?_ NB0_121.out _) | exact HI0.out)) (sz HO_3.out) (by decide)) hk (fun _ h => h.2)) (fun _ h => h.1)); replace HO112 := Aside0.mk (Kd.aT_ (Kd.df_ (IsS82.apart (show IsS82 w0 _ g s0_0 t119 t120 from by repeat (first | (with_reducible first | exact HI0.out | apply IsS82.alloc | apply IsS82.drewN | apply IsS82.drew | apply IsS82.set_1 | apply IsS82.set_2 | refine IsS82.far ?_ NB0_121.out _) | exact HI0.out)) (rz HO112.out) (by decide)) hk (fun _ h => h.2)) (fun _ h => h.1)); replace HL115_3 := Aside0.mk (Kd.aT_ (Kd.df_ (IsS82.apart (show IsS82 w0 _ g s0_0 t119 t120 from by repeat (first | (with_reducible first | exact HI0.out | apply IsS82.alloc | apply IsS82.drewN | apply IsS82.drew | apply IsS82.set_1 | apply IsS82.set_2 | refine IsS82.far ?_ NB0_121.out _) | exact HI0.out)) (rz HL115_3.out) (by decide)) hk (fun _ h => h.2)) (fun _ h => h.1)); replace HO118 := Aside0.mk (Kd.aT_ (Kd.df_ (IsS82.apart (show IsS82 w0 _ g s0_0 t119 t120 from by repeat (first | (with_reducible first | exact HI0.out | apply IsS82.alloc | apply IsS82.drewN | apply IsS82.drew | apply IsS82.set_1 | apply IsS82.set_2 | refine IsS82.far ?_ NB0_121.out _) | exact HI0.out)) (rz HO118.out) (by decide)) hk (fun _ h => h.2)) (fun _ h => h.1)); replace BK121 := Aside0.mk (ac_.blk hk (g' := gb121) (o := .cells #[.int .i64 (wrap64 ((x3_1.length : Int) + 1)), .int .i64 t107, .string (⟨#[]⟩ : ByteArray), .slice Ao21 t116.length co21] 48 (0, 0)) (kz BK121.out) NB121_0.out (by simp)); replace HO124 := Aside0.mk (Kd.aT_ (Kd.df_ (IsS82.apart (show IsS82 w0 _ g s0_0 t119 t120 from by repeat (first | (with_reducible first | exact HI0.out | apply IsS82.alloc | apply IsS82.drewN | apply IsS82.drew | apply IsS82.set_1 | apply IsS82.set_2 | refine IsS82.far ?_ NB0_121.out _) | exact HI0.out)) (rz HO124.out) (by decide)) hk (fun _ h => h.2)) (fun _ h => h.1)); replace HK := Aside0.mk (ac_.trans (by repeat (first | (with_reducible first | exact HK.out | apply ac_.set_ | apply ah_ | apply al_ | apply ai_ | refine aC_ ?_ GW121.out _) | exact HK.out)) hk (.inl rfl)); replace HB := Aside0.mk (hb); replace HI0 := Aside0.mk (hi); (try clear hb); obtain ⟨hcz29_0, hcz29_1, hcz29_2, hcz29_3⟩ := cz4_ BK121.out; obtain ⟨hfz29_0, hfz29_1, hfz29_2, hfz29_3⟩ := fz4_ BK121.out) | ((with_reducible refine gate_store (t := 9) (p := 42) rfl ?_); refine dA_ (t := 9) (p := 42) (v := ?vo_w30) (w1 := (w28.setCell ⟨gb121, 2, none⟩ (.string t125))) ?hg ?ho ?hn ?hr ?_; (case ho => rfl); (case hg => rfl); (case hn => rfl); (case hr => (go_simp; try rfl)); intro w30 hw; replace HO_3 : Aside0 (Kd.S k48 48 w30 w.heap.size (fun k_ => some k_ ≠ (v111 : Value).ownBlock ∧ some k_ ≠ (.slice Ao21 t116.length co21 : Value).ownBlock ∧ k_ ≠ gb121) (.slice (some ad115) x3_1.length co10) x3_1) := ⟨(by rw [hw]; exact (sz (Kd.bE_ (Kd.S_far (p := ⟨gb121, 2, none⟩) (Kd.bE_ HO_3.out (fun k_ hk => (⟨hk, hk.2⟩ : _ ∧ k_ ≠ gb121))) (fun _ hk => hk.2) (.string t125)) (fun _ hk => ⟨hk.1.1.1.2, ⟨hk.1.1.2, hk.1.2⟩⟩))))⟩; replace HO112 : Aside0 (Kd.R k59 59 w30 w.heap.size (fun k_ => some k_ ≠ (.slice Ao21 t116.length co21 : Value).ownBlock) v111 t110) := ⟨(by rw [hw]; exact (rz (Kd.aT_ (Kd.R_far (p := ⟨gb121, 2, none⟩) (Kd.cs_ HO112.out BK121.out (by decide)) (fun _ hk => hk.2) (.string t125)) (fun _ hk => hk.1.2))))⟩; replace HL115_3 : Aside0 (Kd.R k59 59 w30 w.heap.size (fun k_ => some k_ ≠ (.slice (some ad115) x3_1.length co10 : Value).ownBlock ∧ some k_ ≠ (v111 : Value).ownBlock ∧ some k_ ≠ (.slice Ao21 t116.length co21 : Value).ownBlock) (.slice A115_3 ((ar_ x3_1 (ji14)).f3).length c115_3) ((ar_ x3_1 (ji14)).f3)) := ⟨(by rw [hw]; exact (rz (Kd.aT_ (Kd.R_far (p := ⟨gb121, 2, none⟩) (Kd.cs_ HL115_3.out BK121.out (by decide)) (fun _ hk => hk.2) (.string t125)) (fun _ hk => ⟨hk.1.1.2, ⟨hk.1.1.1.2, hk.1.2⟩⟩))))⟩; replace HO118 : Aside0 (Kd.R k59 59 w30 w.heap.size (fun k_ => some k_ ≠ (v111 : Value).ownBlock ∧ some k_ ≠ (.slice A115_3 ((ar_ x3_1 (ji14)).f3).length c115_3 : Value).ownBlock) (.slice Ao21 t116.length co21) t116) := ⟨(by rw [hw]; exact (rz (Kd.aT_ (Kd.R_far (p := ⟨gb121, 2, none⟩) (Kd.cs_ HO118.out BK121.out (by decide)) (fun _ hk => hk.2) (.string t125)) (fun _ hk => ⟨hk.1.1.2, hk.1.2⟩))))⟩; replace HO124 : Aside0 (Kd.R Kd.string 9 w30 w.heap.size (fun _ => True) (.slice Ao27 y122.length co27) y122) := ⟨(by rw [hw]; exact (rz (Kd.aT_ (Kd.R_far (p := ⟨gb121, 2, none⟩) (Kd.cs_ HO124.out BK121.out (by decide)) (fun _ hk => hk.2) (.string t125)) (fun _ hk => trivial))))⟩; replace BK121 : Aside0 (w30.heap[gb121]? = some (.cells #[.int .i64 (wrap64 ((x3_1.length : Int) + 1)), .int .i64 t107, .string t125, .slice Ao21 t116.length co21] 48 (0, 0))) := ⟨(by rw [hw]; exact (by exact kj4_2 (kz BK121.out)))⟩; replace HK : Aside0 (ac_ w w30 g none) := ⟨(by rw [hw]; exact (by repeat (first | (with_reducible first | exact HK.out | apply ac_.set_ | apply ah_ | apply al_ | apply ai_ | refine aC_ ?_ GW121.out _) | exact HK.out)))⟩; replace HB : Aside0 (Below w0.heap.size w0 w30) := ⟨(by rw [hw]; exact (by repeat (first | (with_reducible first | exact HB.out | apply bA_ | apply bN_ | apply bD_ | refine af_ ?_ (IsS82.ge HI0.out) | refine af_ ?_ GE121.out) | exact HB.out)))⟩; replace HI0 : Aside0 (IsS82 w0 w30 g s0_0 t126 t127) := ⟨(by rw [hw]; exact (by repeat (first | (with_reducible first | exact HI0.out | apply IsS82.alloc | apply IsS82.drewN | apply IsS82.drew | apply IsS82.set_1 | apply IsS82.set_2 | refine IsS82.far ?_ NB0_121.out _) | exact HI0.out)))⟩; clear hw; obtain ⟨hcz31_0, hcz31_1, hcz31_2, hcz31_3⟩ := cz4_ BK121.out; obtain ⟨hfz31_0, hfz31_1, hfz31_2, hfz31_3⟩ := fz4_ BK121.out) | ((with_reducible refine bs_ (b := .append) (xs := #[.tmp 43, .tmp 45]) rfl ?_); at_builtin; refine Kd.S_append k48 w.heap.size rfl (.tmp 43) (.tmp 45) 24 48 (.agg #[(.int .i64 0), (.int .i64 0), (.string ⟨#[]⟩), (.slice none 0 0)]) 56 rfl Tryd.underlying24 info48 rfl (by decide) (by omega) (.slice (some ad115) x3_1.length co10) x3_1 (⟨wrap64 ((x3_1.length : Int) + 1), t107, t125, t116⟩ : S48) [.int .i64 (wrap64 ((x3_1.length : Int) + 1)), .int .i64 t107, .string t125, .slice Ao21 t116.length co21] (fun k_ => some k_ ≠ (v111 : Value).ownBlock ∧ k_ ≠ gb121) (fun k_ => some k_ = (.slice Ao21 t116.length co21 : Value).ownBlock) rfl rfl ?aP (fun k_ hk_ => ((Kd.aT_ (ok' := fun k_ => ((fun k_ => some k_ ≠ (v111 : Value).ownBlock ∧ k_ ≠ gb121)) k_ ∧ some k_ ≠ (.slice (some ad115) x3_1.length co10 : Value).ownBlock) (Kd.cs_ (Kd.R_apart' (HO118.out) (Kd.S_typed HO_3.out) (by decide)) BK121.out (by decide)) (fun k_ hk => ⟨⟨hk.1.1.1, hk.2⟩, hk.1.2⟩))).1 k_ hk_.symm) ?aF ?aO (Below.refl _ _) ?aS ?aL ?_; (case aP => exact k48_mkM _ _ _ (⟨wrap64 ((x3_1.length : Int) + 1), t107, t125, t116⟩ : S48) (Kd.aT_ (Kd.dy_ rfl (Kd.aT_ (ok' := fun k_ => ((fun k_ => some k_ ≠ (v111 : Value).ownBlock ∧ k_ ≠ gb121)) k_ ∧ some k_ ≠ (.slice (some ad115) x3_1.length co10 : Value).ownBlock) (Kd.cs_ (Kd.R_apart' (HO118.out) (Kd.S_typed HO_3.out) (by decide)) BK121.out (by decide)) (fun k_ hk => ⟨⟨hk.1.1.1, hk.2⟩, hk.1.2⟩))) (fun _ h_ => h_))); (case aF => exact (fun k_ hk => ⟨Kd.fresh' (Kd.R_lt (rz HO112.out)) k_ hk, Kd.dD_ (g := gb121) (o := .cells #[.int .i64 (wrap64 ((x3_1.length : Int) + 1)), .int .i64 t107, .string t125, .slice Ao21 t116.length co21] 48 (0, 0)) (kz BK121.out) k_ hk⟩)); (case aO => exact (sz (Kd.bE_ HO_3.out (fun k_ hk => ⟨⟨hk.1, hk.2.2⟩, fun e_ => hk.2.1 e_⟩)))); (case aS => exact (br_ (w := w) (g := g) (row := none) (by repeat (first | (with_reducible first | exact HK.out | apply ac_.set_ | apply ah_ | apply al_ | apply ai_ | refine aC_ ?_ GW121.out _) | exact HK.out)))); (case aL => have := LMc19.out; omega); intro v129 w32 ho hb hg hat; rw [← Ny128.out] at ho; replace HO112 := Aside0.mk (Kd.R_over' (rz HO112.out) (Kd.S_typed (sz HO_3.out)) (by decide) hg); replace HL115_3 := Aside0.mk (Kd.R_after (ok := (fun k_ => some k_ ≠ (v111 : Value).ownBlock ∧ some k_ ≠ (.slice Ao21 t116.length co21 : Value).ownBlock)) (rz (Kd.aT_ HL115_3.out (fun _ hk => ⟨⟨hk.2.1, hk.2.2⟩, hk.1⟩))) hg hat); replace BK121 := Aside0.mk (ce_ (g := gb121) (o := .cells #[.int .i64 (wrap64 ((x3_1.length : Int) + 1)), .int .i64 t107, .string t125, .slice Ao21 t116.length co21] 48 (0, 0)) (kz BK121.out) hg (Kd.S_away HO_3.out (fun _ hk => hk.2.2))); replace HO124 := Aside0.mk (Kd.R_over' (rz HO124.out) (Kd.S_typed (sz HO_3.out)) (by decide) hg); replace HB := Aside0.mk (ds_ (by repeat (first | (with_reducible first | exact HB.out | apply bA_ | apply bN_ | apply bD_ | refine af_ ?_ (IsS82.ge HI0.out) | refine af_ ?_ GE121.out) | exact HB.out)) HL.out hb); replace HI0 := Aside0.mk (IsS82.grown (by repeat (first | (with_reducible first | exact HI0.out | apply IsS82.alloc | apply IsS82.drewN | apply IsS82.drew | apply IsS82.set_1 | apply IsS82.set_2 | refine IsS82.far ?_ NB0_121.out _) | exact HI0.out)) hg (IsS82.own_neS HI0.out HO_3.out (by decide))); replace HK := Aside0.mk (ac_.trans (by repeat (first | (with_reducible first | exact HK.out | apply ac_.set_ | apply ah_ | apply al_ | apply ai_ | refine aC_ ?_ GW121.out _) | exact HK.out)) (ac_.of_grown hg g) (Kd.S_base2 HO_3.out)); have HO130 := Aside0.mk (ho); clear HO_3; clear HO118; clear ho hb hg hat))
   go_roundg k1
   case measure => have := HK1.out; omega
   case rel => exact ⟨(y128), (wrap64 (x4_1 - 1)), (t126), (t127), (by first | rfl | (simp; done) | (simp [*]; done)), H', ⟨by have := HK1.out; omega⟩, ⟨sz (Kd.bE_ HO130.out (fun _ hk => trivial))⟩, ⟨by repeat (first | (with_reducible first | exact HI0.out | apply IsS82.alloc | apply IsS82.drewN | apply IsS82.drew | apply IsS82.set_1 | apply IsS82.set_2 | refine IsS82.far ?_ NB0_121.out _) | exact HI0.out)⟩, ⟨by repeat (first | (with_reducible first | exact HK.out | apply ac_.set_ | apply ah_ | apply al_ | apply ai_ | refine aC_ ?_ GW121.out _) | exact HK.out)⟩, ⟨by repeat (first | (with_reducible first | exact HB.out | apply bA_ | apply bN_ | apply bD_ | refine af_ ?_ (IsS82.ge HI0.out) | refine af_ ?_ GE121.out) | exact HB.out)⟩⟩
def cq_.f (k : Nat) (l0 : List Int) : Option ((List (S48))) := (cF_.f l0).bind fun bt101 => ((by_.f k bt101.1 bt101.2.1 bt101.2.2).bind fun bt105 => (some bt105.1))
set_option maxHeartbeats 8000000 in
set_option maxRecDepth 100000 in
theorem cq_.calls (k : Nat) (A0 : Option Addr) (c0 : Nat) (l0 : List Int) (r : List (S48)) (w : World) (hr0 : Kd.C (Kd.int .u8) w A0 l0.length l0) (hc0 : l0.length ≤ c0) (h : cq_.f k l0 = some r) :
  Calls Tryd.prog 5 #[.slice A0 l0.length c0] w fun e w' => ∃ v0_ : Value, e = .returned (v0_) ∧ Kd.S k48 48 w' w.heap.size (fun _ => True) v0_ r ∧ Below w.heap.size w w' := by
 have HR0 := Aside0.mk hr0
 have HC0 := Aside0.mk hc0
 clear hr0 hc0
 have HB := Aside0.mk (Below.refl w.heap.size w)
 have H : ((cF_.f l0).bind fun bt101 => ((by_.f k bt101.1 bt101.2.1 bt101.2.2).bind fun bt105 => (some bt105.1))) = some r := h
 clear h
 replace H := Option.bind_eq_some_iff.mp H
 obtain ⟨⟨t101, t102, t103⟩, A20, H⟩ := H
 (try dsimp only at H)
 have A2 := Aside0.mk A20
 clear A20
 replace H := Option.bind_eq_some_iff.mp H
 obtain ⟨⟨t105, t108, t109⟩, A30, H⟩ := H
 (try dsimp only at H)
 have A3 := Aside0.mk A30
 clear A30
 obtain rfl := Option.some.inj H
 go_enter Tryd.func5, Tryd.ntmps5
 go_wp2_with (first | ((with_reducible refine as_ (f := 20) rfl ?_); refine bw_ (some 5) rfl rfl Tryd.func20 (by kernel_rfl) rfl #[.slice A0 l0.length c0] rfl (by first | rfl | (simp only [lma_, lmc_, lmn_]; first | done | rfl)) ?_; (with_reducible refine (cF_.calls _ _ l0 t101 t102 t103 w _ ?side1 ?side2 ?side3 A2.out).mono ?_); (case side1 => exact bz HB.out); (case side2 => exact HR0.out); (case side3 => exact HC0.out); rintro e w4 ⟨g104, rfl, hi, hb, hb2⟩; refine ⟨_, rfl, ?_⟩; replace HB := Aside0.mk (hb); have HI104 := Aside0.mk (hi); (try clear hb)) | ((with_reducible refine as_ (f := 21) rfl ?_); refine bw_ (some 7) rfl rfl Tryd.func21 (by kernel_rfl) rfl #[.pointer (some ⟨g104, 0, none⟩)] rfl (by first | rfl | (simp only [lma_, lmc_, lmn_]; first | done | rfl)) ?_; (with_reducible refine (by_.calls k g104 t101 t102 t103 t105 t108 t109 w _ ?side1 ?side2 A3.out).mono ?_); (case side1 => repeat (first | (with_reducible first | exact HI104.out | apply IsS82.alloc | apply IsS82.drewN | apply IsS82.drew | apply IsS82.set_1 | apply IsS82.set_2) | exact HI104.out)); (case side2 => repeat (first | (with_reducible first | exact HB.out | apply bA_ | apply bN_ | apply bD_ | refine af_ ?_ (IsS82.ge HI104.out)) | exact HB.out)); rintro e w5 ⟨v106, rfl, ho0, hi, hb, hk⟩; refine ⟨_, rfl, ?_⟩; have HO107 := Aside0.mk (Kd.du_ ho0 (ag_ (by repeat (first | (with_reducible first | exact HB.out | apply bA_ | apply bN_ | apply bD_ | refine af_ ?_ (IsS82.ge HI104.out)) | exact HB.out)))); replace HB := Aside0.mk (hb); replace HI104 := Aside0.mk (hi); (try clear hb); (try clear ho0)))
 go_ret
 exact ⟨_, by first | rfl | (simp [*, ap_, ao_] <;> rfl), sz HO107.out, by repeat (first | (with_reducible first | exact HB.out | apply bA_ | apply bN_ | apply bD_ | refine af_ ?_ (IsS82.ge HI104.out)) | exact HB.out)⟩
def cL_.f (k : Nat) (l0 : List Int) : Option ((List (S59))) := (cF_.f l0).bind fun bt101 => ((ay_.f k bt101.1 bt101.2.1 bt101.2.2).bind fun bt105 => (some bt105.1))
set_option maxHeartbeats 8000000 in
set_option maxRecDepth 100000 in
theorem cL_.calls (k : Nat) (A0 : Option Addr) (c0 : Nat) (l0 : List Int) (r : List (S59)) (w : World) (hr0 : Kd.C (Kd.int .u8) w A0 l0.length l0) (hc0 : l0.length ≤ c0) (h : cL_.f k l0 = some r) :
  Calls Tryd.prog 6 #[.slice A0 l0.length c0] w fun e w' => ∃ v0_ : Value, e = .returned (v0_) ∧ Kd.R k59 59 w' w.heap.size (fun _ => True) v0_ r ∧ Below w.heap.size w w' := by
 have HR0 := Aside0.mk hr0
 have HC0 := Aside0.mk hc0
 clear hr0 hc0
 have HB := Aside0.mk (Below.refl w.heap.size w)
 have H : ((cF_.f l0).bind fun bt101 => ((ay_.f k bt101.1 bt101.2.1 bt101.2.2).bind fun bt105 => (some bt105.1))) = some r := h
 clear h
 replace H := Option.bind_eq_some_iff.mp H
 obtain ⟨⟨t101, t102, t103⟩, A20, H⟩ := H
 (try dsimp only at H)
 have A2 := Aside0.mk A20
 clear A20
 replace H := Option.bind_eq_some_iff.mp H
 obtain ⟨⟨t105, t108, t109⟩, A30, H⟩ := H
 (try dsimp only at H)
 have A3 := Aside0.mk A30
 clear A30
 obtain rfl := Option.some.inj H
 go_enter Tryd.func6, Tryd.ntmps6
 go_wp2_with (first | ((with_reducible refine as_ (f := 20) rfl ?_); refine bw_ (some 5) rfl rfl Tryd.func20 (by kernel_rfl) rfl #[.slice A0 l0.length c0] rfl (by first | rfl | (simp only [lma_, lmc_, lmn_]; first | done | rfl)) ?_; (with_reducible refine (cF_.calls _ _ l0 t101 t102 t103 w _ ?side1 ?side2 ?side3 A2.out).mono ?_); (case side1 => exact bz HB.out); (case side2 => exact HR0.out); (case side3 => exact HC0.out); rintro e w4 ⟨g104, rfl, hi, hb, hb2⟩; refine ⟨_, rfl, ?_⟩; replace HB := Aside0.mk (hb); have HI104 := Aside0.mk (hi); (try clear hb)) | ((with_reducible refine as_ (f := 22) rfl ?_); refine bw_ (some 7) rfl rfl Tryd.func22 (by kernel_rfl) rfl #[.pointer (some ⟨g104, 0, none⟩)] rfl (by first | rfl | (simp only [lma_, lmc_, lmn_]; first | done | rfl)) ?_; (with_reducible refine (ay_.calls k g104 t101 t102 t103 t105 t108 t109 w _ ?side1 ?side2 A3.out).mono ?_); (case side1 => repeat (first | (with_reducible first | exact HI104.out | apply IsS82.alloc | apply IsS82.drewN | apply IsS82.drew | apply IsS82.set_1 | apply IsS82.set_2) | exact HI104.out)); (case side2 => repeat (first | (with_reducible first | exact HB.out | apply bA_ | apply bN_ | apply bD_ | refine af_ ?_ (IsS82.ge HI104.out)) | exact HB.out)); rintro e w5 ⟨v106, rfl, ho0, hi, hb, hk⟩; refine ⟨_, rfl, ?_⟩; have HO107 := Aside0.mk (Kd.bi_ ho0 (ag_ (by repeat (first | (with_reducible first | exact HB.out | apply bA_ | apply bN_ | apply bD_ | refine af_ ?_ (IsS82.ge HI104.out)) | exact HB.out)))); replace HB := Aside0.mk (hb); replace HI104 := Aside0.mk (hi); (try clear hb); (try clear ho0)))
 go_ret
 exact ⟨_, by first | rfl | (simp [*, ap_, ao_] <;> rfl), rz HO107.out, by repeat (first | (with_reducible first | exact HB.out | apply bA_ | apply bN_ | apply bD_ | refine af_ ?_ (IsS82.ge HI104.out)) | exact HB.out)⟩
def co_.f (k : Nat) (l0 : List Int) (l1 : List (S59)) : Option ((List (S59))) := (cF_.f l0).bind fun bt101 => ((ax_.f k bt101.1 bt101.2.1 bt101.2.2 l1).bind fun bt105 => (some bt105.1))
set_option maxHeartbeats 8000000 in
set_option maxRecDepth 100000 in
theorem co_.calls (k : Nat) (A0 : Option Addr) (c0 : Nat) (l0 : List Int) (A1 : Option Addr) (c1 : Nat) (l1 : List (S59)) (r : List (S59)) (w : World) (hr0 : Kd.C (Kd.int .u8) w A0 l0.length l0) (hc0 : l0.length ≤ c0) (hr1 : Kd.C k59 w A1 l1.length l1) (hc1 : l1.length ≤ c1) (h : co_.f k l0 l1 = some r) :
  Calls Tryd.prog 7 #[.slice A0 l0.length c0, .slice A1 l1.length c1] w fun e w' => ∃ v0_ : Value, e = .returned (v0_) ∧ Kd.R k59 59 w' w.heap.size (fun _ => True) v0_ r ∧ Below w.heap.size w w' := by
 have HR0 := Aside0.mk hr0
 have HC0 := Aside0.mk hc0
 clear hr0 hc0
 have HR1 := Aside0.mk hr1
 have HC1 := Aside0.mk hc1
 clear hr1 hc1
 have HB := Aside0.mk (Below.refl w.heap.size w)
 have H : ((cF_.f l0).bind fun bt101 => ((ax_.f k bt101.1 bt101.2.1 bt101.2.2 l1).bind fun bt105 => (some bt105.1))) = some r := h
 clear h
 replace H := Option.bind_eq_some_iff.mp H
 obtain ⟨⟨t101, t102, t103⟩, A30, H⟩ := H
 (try dsimp only at H)
 have A3 := Aside0.mk A30
 clear A30
 replace H := Option.bind_eq_some_iff.mp H
 obtain ⟨⟨t105, t108, t109⟩, A40, H⟩ := H
 (try dsimp only at H)
 have A4 := Aside0.mk A40
 clear A40
 obtain rfl := Option.some.inj H
 go_enter Tryd.func7, Tryd.ntmps7
 go_wp2_with (first | ((with_reducible refine as_ (f := 20) rfl ?_); refine bw_ (some 7) rfl rfl Tryd.func20 (by kernel_rfl) rfl #[.slice A0 l0.length c0] rfl (by first | rfl | (simp only [lma_, lmc_, lmn_]; first | done | rfl)) ?_; (with_reducible refine (cF_.calls _ _ l0 t101 t102 t103 w _ ?side1 ?side2 ?side3 A3.out).mono ?_); (case side1 => exact bz HB.out); (case side2 => exact HR0.out); (case side3 => exact HC0.out); rintro e w5 ⟨g104, rfl, hi, hb, hb2⟩; refine ⟨_, rfl, ?_⟩; replace HB := Aside0.mk (hb); have HI104 := Aside0.mk (hi); (try clear hb)) | ((with_reducible refine as_ (f := 23) rfl ?_); refine bw_ (some 10) rfl rfl Tryd.func23 (by kernel_rfl) rfl #[.pointer (some ⟨g104, 0, none⟩), .slice A1 l1.length c1] rfl (by first | rfl | (simp only [lma_, lmc_, lmn_]; first | done | rfl)) ?_; (with_reducible refine (ax_.calls k g104 t101 t102 t103 _ _ l1 t105 t108 t109 w _ ?side1 ?side2 ?side3 ?side4 A4.out).mono ?_); (case side1 => repeat (first | (with_reducible first | exact HI104.out | apply IsS82.alloc | apply IsS82.drewN | apply IsS82.drew | apply IsS82.set_1 | apply IsS82.set_2) | exact HI104.out)); (case side2 => repeat (first | (with_reducible first | exact HB.out | apply bA_ | apply bN_ | apply bD_ | refine af_ ?_ (IsS82.ge HI104.out)) | exact HB.out)); (case side3 => exact Kd.C_foot_came k59_heap HR1.out (by repeat (first | (with_reducible first | exact HB.out | apply bA_ | apply bN_ | apply bD_ | refine af_ ?_ (IsS82.ge HI104.out)) | exact HB.out)) (IsS82.ge HI104.out)); (case side4 => exact HC1.out); rintro e w6 ⟨v106, rfl, ho0, hi, hb, hk⟩; refine ⟨_, rfl, ?_⟩; have HO107 := Aside0.mk (Kd.bi_ ho0 (ag_ (by repeat (first | (with_reducible first | exact HB.out | apply bA_ | apply bN_ | apply bD_ | refine af_ ?_ (IsS82.ge HI104.out)) | exact HB.out)))); replace HB := Aside0.mk (hb); replace HI104 := Aside0.mk (hi); (try clear hb); (try clear ho0)))
 go_ret
 exact ⟨_, by first | rfl | (simp [*, ap_, ao_] <;> rfl), rz HO107.out, by repeat (first | (with_reducible first | exact HB.out | apply bA_ | apply bN_ | apply bD_ | refine af_ ?_ (IsS82.ge HI104.out)) | exact HB.out)⟩
theorem eqA57 (d : Nat) (w : World) (x0 y0 : ByteArray) (x1 y1 : Int) (x2 y2 : Int) :
  (Op.equalIn (d + 2) 57 (.agg #[.string x0, .int .i64 x1, .int .i64 x2]) (.agg #[.string y0, .int .i64 y1, .int .i64 y2])).run Tryd.prog w = .ok (x0.toList == y0.toList && (x1 == y1 && (x2 == y2))) w := by
 refine eqA_of Tryd.underlying57 (by kernel_rfl) ?_
 refine eqf_cons (by rfl) (by go_simp; rfl) (by go_simp; rfl) (by go_simp) ?_
 refine eqf_cons (by rfl) (by go_simp; rfl) (by go_simp; rfl) (by go_simp) ?_
 exact eqf_last (by rfl) (by go_simp; rfl) (by go_simp; rfl) (by go_simp)
mutual
def aK_.j0 : Nat → ByteArray → Bool → Option (Bool)
 | 0, _, _ => none
 | k + 1, x0, x21 => if x21 = true then (some false) else (aK_.l0 k x0 0)
def aK_.l0 : Nat → ByteArray → Int → Option (Bool)
 | 0, _, _ => none
 | k + 1, x0, x3 => if x3 < (x0.size : Int) then (if 0 ≤ x3 then (if (bt x0 x3) < 97 then (if (bt x0 x3) < 48 then (some false) else (if (bt x0 x3) > 57 then (some false) else (aK_.l0 k x0 (wrap64 (x3 + 1))))) else (if (bt x0 x3) > 122 then (if (bt x0 x3) < 48 then (some false) else (if (bt x0 x3) > 57 then (some false) else (aK_.l0 k x0 (wrap64 (x3 + 1))))) else (aK_.l0 k x0 (wrap64 (x3 + 1))))) else (none)) else (some true)
end
def aK_.f (k : Nat) (a0 : ByteArray) : Option (Bool) := if (a0.size : Int) < 1 then (aK_.j0 k a0 true) else (if (a0.size : Int) > 10 then (aK_.j0 k a0 true) else (if 0 < (a0.size : Int) then (if (bt a0 0) < 97 then (aK_.j0 k a0 true) else (aK_.j0 k a0 (decide ((bt a0 0) > 122)))) else (none)))
set_option maxHeartbeats 8000000 in
set_option maxRecDepth 100000 in
theorem aK_.calls (k : Nat) (a0 : ByteArray) (r : Bool) (w : World) (h : aK_.f k a0 = some r) :
  Calls Tryd.prog 56 #[.string a0] w fun e w' => e = .returned (.bool r) ∧ au_ w w' := by
 have H : (if (a0.size : Int) < 1 then (aK_.j0 k a0 true) else (if (a0.size : Int) > 10 then (aK_.j0 k a0 true) else (if 0 < (a0.size : Int) then (if (bt a0 0) < 97 then (aK_.j0 k a0 true) else (aK_.j0 k a0 (decide ((bt a0 0) > 122)))) else (none)))) = some r := h
 clear h
 have HC2 := Aside0.mk H
 clear H
 go_enter Tryd.func56, Tryd.ntmps56
 go_upto_region 1 with (fail)
 go_cut [21] (fun v21 wc => ∃ (kq : Nat) (x21_1 : Bool), v21 = .bool x21_1 ∧ Aside0 (aK_.j0 kq a0 x21_1 = some r) ∧ Aside0 (kq ≤ k) ∧ au_ w wc)
 case first =>
  have H := HC2.out
  clear HC2
  by_cases c3 : (a0.size : Int) < 1
  rotate_left
  ·rw [if_neg c3] at H
   have c3b0 : decide ((a0.size : Int) < 1) = false := decide_eq_false c3
   have c3b1 : decide (a0.size < 1) = false := decide_eq_false (by omega)
   clear c3
   (first | rw [c3b0] | (simp only [i64_w, i32_w]; rw [c3b0]) | (simp only [c3b1, Bool.not_true, Bool.not_false]) | (simp only [c3b0, Bool.not_true, Bool.not_false]) | skip)
   by_cases c4 : (a0.size : Int) > 10
   rotate_left
   ·rw [if_neg c4] at H
    have c4b0 : decide (10 < (a0.size : Int)) = false := decide_eq_false c4
    have c4b1 : decide (10 < a0.size) = false := decide_eq_false (by omega)
    clear c4
    by_cases c5 : 0 < (a0.size : Int)
    rotate_left
    ·rw [if_neg c5] at H
     exact absurd H (by simp)
    rw [if_pos c5] at H
    have c5b0 : decide (0 < (a0.size : Int)) = true := decide_eq_true c5
    have c5b1 : decide (0 < a0.size) = true := decide_eq_true (by omega)
    clear c5
    by_cases c7 : (bt a0 0) < 97
    rotate_left
    ·rw [if_neg c7] at H
     have c7b0 : decide ((bt a0 0) < 97) = false := decide_eq_false c7
     clear c7
     have H' := Aside0.mk H
     clear H
     have p6 : 0 ≤ (0 : Int) := (by omega)
     have q6 : 0 < a0.size := (by have : (0 : Int) < (a0.size : Int) := of_decide_eq_true (by assumption); omega)
     have hx6 : ∀ h : 0 < a0.size, ((a0[0]'h).toNat : Int) = bt a0 0 := bt_at a0 0
     clear p6
     have qi6 : (0 < (a0.size : Int)) = True := eq_true (of_decide_eq_true (by assumption))
     replace q6 := eq_true q6
     have p8 : 0 ≤ (0 : Int) := (by omega)
     have q8 : 0 < a0.size := (by have : (0 : Int) < (a0.size : Int) := of_decide_eq_true (by assumption); omega)
     have hx8 : ∀ h : 0 < a0.size, ((a0[0]'h).toNat : Int) = bt a0 0 := bt_at a0 0
     clear p8
     have qi8 : (0 < (a0.size : Int)) = True := eq_true (of_decide_eq_true (by assumption))
     replace q8 := eq_true q8
     go_wp2
     go_meet
     case rel => exact ⟨_, (decide ((bt a0 0) > 122)), (by first | rfl | (simp; done) | (simp [*]; done)), H', ⟨by first | omega | exact Nat.le_refl _⟩, by repeat (first | exact au_.refl _ | apply au_.step)⟩
    rw [if_pos c7] at H
    have c7b0 : decide ((bt a0 0) < 97) = true := decide_eq_true c7
    clear c7
    have H' := Aside0.mk H
    clear H
    have p6 : 0 ≤ (0 : Int) := (by omega)
    have q6 : 0 < a0.size := (by have : (0 : Int) < (a0.size : Int) := of_decide_eq_true (by assumption); omega)
    have hx6 : ∀ h : 0 < a0.size, ((a0[0]'h).toNat : Int) = bt a0 0 := bt_at a0 0
    clear p6
    have qi6 : (0 < (a0.size : Int)) = True := eq_true (of_decide_eq_true (by assumption))
    replace q6 := eq_true q6
    go_wp2
    go_meet
    case rel => exact ⟨_, (true), (by first | rfl | (simp; done) | (simp [*]; done)), H', ⟨by first | omega | exact Nat.le_refl _⟩, by repeat (first | exact au_.refl _ | apply au_.step)⟩
   rw [if_pos c4] at H
   have c4b0 : decide (10 < (a0.size : Int)) = true := decide_eq_true c4
   have c4b1 : decide (10 < a0.size) = true := decide_eq_true (by omega)
   clear c4
   have H' := Aside0.mk H
   clear H
   go_wp2
   go_meet
   case rel => exact ⟨_, (true), (by first | rfl | (simp; done) | (simp [*]; done)), H', ⟨by first | omega | exact Nat.le_refl _⟩, by repeat (first | exact au_.refl _ | apply au_.step)⟩
  rw [if_pos c3] at H
  have c3b0 : decide ((a0.size : Int) < 1) = true := decide_eq_true c3
  have c3b1 : decide (a0.size < 1) = true := decide_eq_true (by omega)
  clear c3
  (first | rw [c3b0] | (simp only [i64_w, i32_w]; rw [c3b0]) | (simp only [c3b1, Bool.not_true, Bool.not_false]) | (simp only [c3b0, Bool.not_true, Bool.not_false]) | skip)
  have H' := Aside0.mk H
  clear H
  go_wp2
  go_meet
  case rel => exact ⟨_, (true), (by first | rfl | (simp; done) | (simp [*]; done)), H', ⟨by first | omega | exact Nat.le_refl _⟩, by repeat (first | exact au_.refl _ | apply au_.step)⟩
 case rest =>
  clear HC2
  obtain ⟨kq, x21_1, rfl, HA, HJ1, ⟨mc1, rfl⟩⟩ := hcut
  cases kq with
  | zero => exact absurd HA.out (by simp [aK_.j0])
  | succ kj1 =>
   have H := HA.out
   clear HA
   simp only [aK_.j0] at H
   by_cases c9 : x21_1 = true
   rotate_left
   ·replace c9 := Bool.eq_false_iff.mpr c9
    subst c9
    have H1 : (aK_.l0 kj1 a0 0) = some r := by rw [if_neg (show ¬ (false = true) by decide)] at H; exact H
    clear H
    have H := H1
    clear H1
    have H' := Aside0.mk H
    clear H
    go_wp2
    (try simp only [Act.put, lsa_, ls0_, ls1_])
    go_loopg [3] kj1 (fun kq v3 w' => ∃ (x3_2 : Int), v3 = .int .i64 x3_2 ∧ Aside0 (aK_.l0 kq a0 x3_2 = some r) ∧ Aside0 (kq ≤ kj1) ∧ au_ w w')
    case atStart => exact ⟨(0), (by first | rfl | (simp; done) | (simp [*]; done)), H', ⟨Nat.le_refl _⟩, by repeat (first | exact au_.refl _ | apply au_.step)⟩
    case round =>
     clear H'
     obtain ⟨x3_2, rfl, HA, HK2, ⟨m2, rfl⟩⟩ := hrel
     cases gk with
     | zero => exact absurd HA.out (by simp [aK_.l0])
     | succ k2 =>
      have H := HA.out
      clear HA
      simp only [aK_.l0] at H
      by_cases c10 : x3_2 < (a0.size : Int)
      rotate_left
      ·rw [if_neg c10] at H
       have c10b0 : decide (x3_2 < (a0.size : Int)) = false := decide_eq_false c10
       clear c10
       obtain rfl := Option.some.inj H
       go_wp2
       go_ret
       exact ⟨by first | rfl | (simp; done) | (simp [*]; done), by repeat (first | exact au_.refl _ | apply au_.step)⟩
      rw [if_pos c10] at H
      have c10b0 : decide (x3_2 < (a0.size : Int)) = true := decide_eq_true c10
      clear c10
      by_cases c11 : 0 ≤ x3_2
      rotate_left
      ·rw [if_neg c11] at H
       exact absurd H (by simp)
      rw [if_pos c11] at H
      have c11b0 : decide (0 ≤ x3_2) = true := decide_eq_true c11
      clear c11
      by_cases c13 : (bt a0 x3_2) < 97
      rotate_left
      ·rw [if_neg c13] at H
       have c13b0 : decide ((bt a0 x3_2) < 97) = false := decide_eq_false c13
       clear c13
       by_cases c19 : (bt a0 x3_2) > 122
       rotate_left
       ·rw [if_neg c19] at H
        have c19b0 : decide (122 < (bt a0 x3_2)) = false := decide_eq_false c19
        clear c19
        have H' := Aside0.mk H
        clear H
        have p12 : 0 ≤ (x3_2 : Int) := of_decide_eq_true (by assumption)
        have q12 : x3_2 < (a0.size : Int) := of_decide_eq_true (by assumption)
        have hx12 := bt_at a0 x3_2
        replace p12 := eq_true p12
        replace q12 := eq_true q12
        have p18 : 0 ≤ (x3_2 : Int) := of_decide_eq_true (by assumption)
        have q18 : x3_2 < (a0.size : Int) := of_decide_eq_true (by assumption)
        have hx18 := bt_at a0 x3_2
        replace p18 := eq_true p18
        replace q18 := eq_true q18
        go_wp2
        go_roundg k2
        case measure => have := HJ1.out; have := HK2.out; omega
        case rel => exact ⟨(wrap64 (x3_2 + 1)), (by first | rfl | (simp; done) | (simp [*]; done)), H', ⟨by have := HJ1.out; have := HK2.out; omega⟩, by repeat (first | exact au_.refl _ | apply au_.step)⟩
       rw [if_pos c19] at H
       have c19b0 : decide (122 < (bt a0 x3_2)) = true := decide_eq_true c19
       clear c19
       by_cases c21 : (bt a0 x3_2) < 48
       rotate_left
       ·rw [if_neg c21] at H
        have c21b0 : decide ((bt a0 x3_2) < 48) = false := decide_eq_false c21
        clear c21
        by_cases c23 : (bt a0 x3_2) > 57
        rotate_left
        ·rw [if_neg c23] at H
         have c23b0 : decide (57 < (bt a0 x3_2)) = false := decide_eq_false c23
         clear c23
         have H' := Aside0.mk H
         clear H
         have p12 : 0 ≤ (x3_2 : Int) := of_decide_eq_true (by assumption)
         have q12 : x3_2 < (a0.size : Int) := of_decide_eq_true (by assumption)
         have hx12 := bt_at a0 x3_2
         replace p12 := eq_true p12
         replace q12 := eq_true q12
         have p18 : 0 ≤ (x3_2 : Int) := of_decide_eq_true (by assumption)
         have q18 : x3_2 < (a0.size : Int) := of_decide_eq_true (by assumption)
         have hx18 := bt_at a0 x3_2
         replace p18 := eq_true p18
         replace q18 := eq_true q18
         have p20 : 0 ≤ (x3_2 : Int) := of_decide_eq_true (by assumption)
         have q20 : x3_2 < (a0.size : Int) := of_decide_eq_true (by assumption)
         have hx20 := bt_at a0 x3_2
         replace p20 := eq_true p20
         replace q20 := eq_true q20
         have p22 : 0 ≤ (x3_2 : Int) := of_decide_eq_true (by assumption)
         have q22 : x3_2 < (a0.size : Int) := of_decide_eq_true (by assumption)
         have hx22 := bt_at a0 x3_2
         replace p22 := eq_true p22
         replace q22 := eq_true q22
         go_wp2
         go_roundg k2
         case measure => have := HJ1.out; have := HK2.out; omega
         case rel => exact ⟨(wrap64 (x3_2 + 1)), (by first | rfl | (simp; done) | (simp [*]; done)), H', ⟨by have := HJ1.out; have := HK2.out; omega⟩, by repeat (first | exact au_.refl _ | apply au_.step)⟩
        rw [if_pos c23] at H
        have c23b0 : decide (57 < (bt a0 x3_2)) = true := decide_eq_true c23
        clear c23
        obtain rfl := Option.some.inj H
        have p12 : 0 ≤ (x3_2 : Int) := of_decide_eq_true (by assumption)
        have q12 : x3_2 < (a0.size : Int) := of_decide_eq_true (by assumption)
        have hx12 := bt_at a0 x3_2
        replace p12 := eq_true p12
        replace q12 := eq_true q12
        have p18 : 0 ≤ (x3_2 : Int) := of_decide_eq_true (by assumption)
        have q18 : x3_2 < (a0.size : Int) := of_decide_eq_true (by assumption)
        have hx18 := bt_at a0 x3_2
        replace p18 := eq_true p18
        replace q18 := eq_true q18
        have p20 : 0 ≤ (x3_2 : Int) := of_decide_eq_true (by assumption)
        have q20 : x3_2 < (a0.size : Int) := of_decide_eq_true (by assumption)
        have hx20 := bt_at a0 x3_2
        replace p20 := eq_true p20
        replace q20 := eq_true q20
        have p22 : 0 ≤ (x3_2 : Int) := of_decide_eq_true (by assumption)
        have q22 : x3_2 < (a0.size : Int) := of_decide_eq_true (by assumption)
        have hx22 := bt_at a0 x3_2
        replace p22 := eq_true p22
        replace q22 := eq_true q22
        go_wp2
        go_ret
        exact ⟨by first | rfl | (simp; done) | (simp [*]; done), by repeat (first | exact au_.refl _ | apply au_.step)⟩
       rw [if_pos c21] at H
       have c21b0 : decide ((bt a0 x3_2) < 48) = true := decide_eq_true c21
       clear c21
       obtain rfl := Option.some.inj H
       have p12 : 0 ≤ (x3_2 : Int) := of_decide_eq_true (by assumption)
       have q12 : x3_2 < (a0.size : Int) := of_decide_eq_true (by assumption)
       have hx12 := bt_at a0 x3_2
       replace p12 := eq_true p12
       replace q12 := eq_true q12
       have p18 : 0 ≤ (x3_2 : Int) := of_decide_eq_true (by assumption)
       have q18 : x3_2 < (a0.size : Int) := of_decide_eq_true (by assumption)
       have hx18 := bt_at a0 x3_2
       replace p18 := eq_true p18
       replace q18 := eq_true q18
       have p20 : 0 ≤ (x3_2 : Int) := of_decide_eq_true (by assumption)
       have q20 : x3_2 < (a0.size : Int) := of_decide_eq_true (by assumption)
       have hx20 := bt_at a0 x3_2
       replace p20 := eq_true p20
       replace q20 := eq_true q20
       go_wp2
       go_ret
       exact ⟨by first | rfl | (simp; done) | (simp [*]; done), by repeat (first | exact au_.refl _ | apply au_.step)⟩
      rw [if_pos c13] at H
      have c13b0 : decide ((bt a0 x3_2) < 97) = true := decide_eq_true c13
      clear c13
      by_cases c15 : (bt a0 x3_2) < 48
      rotate_left
      ·rw [if_neg c15] at H
       have c15b0 : decide ((bt a0 x3_2) < 48) = false := decide_eq_false c15
       clear c15
       by_cases c17 : (bt a0 x3_2) > 57
       rotate_left
       ·rw [if_neg c17] at H
        have c17b0 : decide (57 < (bt a0 x3_2)) = false := decide_eq_false c17
        clear c17
        have H' := Aside0.mk H
        clear H
        have p12 : 0 ≤ (x3_2 : Int) := of_decide_eq_true (by assumption)
        have q12 : x3_2 < (a0.size : Int) := of_decide_eq_true (by assumption)
        have hx12 := bt_at a0 x3_2
        replace p12 := eq_true p12
        replace q12 := eq_true q12
        have p14 : 0 ≤ (x3_2 : Int) := of_decide_eq_true (by assumption)
        have q14 : x3_2 < (a0.size : Int) := of_decide_eq_true (by assumption)
        have hx14 := bt_at a0 x3_2
        replace p14 := eq_true p14
        replace q14 := eq_true q14
        have p16 : 0 ≤ (x3_2 : Int) := of_decide_eq_true (by assumption)
        have q16 : x3_2 < (a0.size : Int) := of_decide_eq_true (by assumption)
        have hx16 := bt_at a0 x3_2
        replace p16 := eq_true p16
        replace q16 := eq_true q16
        go_wp2
        go_roundg k2
        case measure => have := HJ1.out; have := HK2.out; omega
        case rel => exact ⟨(wrap64 (x3_2 + 1)), (by first | rfl | (simp; done) | (simp [*]; done)), H', ⟨by have := HJ1.out; have := HK2.out; omega⟩, by repeat (first | exact au_.refl _ | apply au_.step)⟩
       rw [if_pos c17] at H
       have c17b0 : decide (57 < (bt a0 x3_2)) = true := decide_eq_true c17
       clear c17
       obtain rfl := Option.some.inj H
       have p12 : 0 ≤ (x3_2 : Int) := of_decide_eq_true (by assumption)
       have q12 : x3_2 < (a0.size : Int) := of_decide_eq_true (by assumption)
       have hx12 := bt_at a0 x3_2
       replace p12 := eq_true p12
       replace q12 := eq_true q12
       have p14 : 0 ≤ (x3_2 : Int) := of_decide_eq_true (by assumption)
       have q14 : x3_2 < (a0.size : Int) := of_decide_eq_true (by assumption)
       have hx14 := bt_at a0 x3_2
       replace p14 := eq_true p14
       replace q14 := eq_true q14
       have p16 : 0 ≤ (x3_2 : Int) := of_decide_eq_true (by assumption)
       have q16 : x3_2 < (a0.size : Int) := of_decide_eq_true (by assumption)
       have hx16 := bt_at a0 x3_2
       replace p16 := eq_true p16
       replace q16 := eq_true q16
       go_wp2
       go_ret
       exact ⟨by first | rfl | (simp; done) | (simp [*]; done), by repeat (first | exact au_.refl _ | apply au_.step)⟩
      rw [if_pos c15] at H
      have c15b0 : decide ((bt a0 x3_2) < 48) = true := decide_eq_true c15
      clear c15
      obtain rfl := Option.some.inj H
      have p12 : 0 ≤ (x3_2 : Int) := of_decide_eq_true (by assumption)
      have q12 : x3_2 < (a0.size : Int) := of_decide_eq_true (by assumption)
      have hx12 := bt_at a0 x3_2
      replace p12 := eq_true p12
      replace q12 := eq_true q12
      have p14 : 0 ≤ (x3_2 : Int) := of_decide_eq_true (by assumption)
      have q14 : x3_2 < (a0.size : Int) := of_decide_eq_true (by assumption)
      have hx14 := bt_at a0 x3_2
      replace p14 := eq_true p14
      replace q14 := eq_true q14
      go_wp2
      go_ret
      exact ⟨by first | rfl | (simp; done) | (simp [*]; done), by repeat (first | exact au_.refl _ | apply au_.step)⟩
   subst c9
   have H1 : (some false) = some r := by rw [if_pos rfl] at H; exact H
   clear H
   have H := H1
   clear H1
   obtain rfl := Option.some.inj H
   go_wp2
   go_ret
   exact ⟨by first | rfl | (simp; done) | (simp [*]; done), by repeat (first | exact au_.refl _ | apply au_.step)⟩
def aF_.f (a0 : Int) (a1 : Int) (a2 : Int) : Option (Bool) := if a0 ≥ a1 then (some (decide (a0 ≤ a2))) else (some false)
set_option maxHeartbeats 8000000 in
set_option maxRecDepth 100000 in
theorem aF_.calls (a0 : Int) (a1 : Int) (a2 : Int) (r : Bool) (w : World) (h : aF_.f a0 a1 a2 = some r) :
  Calls Tryd.prog 29 #[.int .i64 a0, .int .i64 a1, .int .i64 a2] w fun e w' => e = .returned (.bool r) ∧ au_ w w' := by
 have H : (if a0 ≥ a1 then (some (decide (a0 ≤ a2))) else (some false)) = some r := h
 clear h
 by_cases c4 : a0 ≥ a1
 rotate_left
 ·rw [if_neg c4] at H
  have c4b0 : decide (a1 ≤ a0) = false := decide_eq_false c4
  clear c4
  obtain rfl := Option.some.inj H
  go_enter Tryd.func29, Tryd.ntmps29
  go_wp2
  go_ret
  exact ⟨by first | rfl | (simp; done) | (simp [*]; done), by repeat (first | exact au_.refl _ | apply au_.step)⟩
 rw [if_pos c4] at H
 have c4b0 : decide (a1 ≤ a0) = true := decide_eq_true c4
 clear c4
 obtain rfl := Option.some.inj H
 go_enter Tryd.func29, Tryd.ntmps29
 go_wp2
 go_ret
 exact ⟨by first | rfl | (simp; done) | (simp [*]; done), by repeat (first | exact au_.refl _ | apply au_.step)⟩
def cO_.f (a0 : ByteArray) : Option (Int × Int × Int × Int) := if a0.toList = ([97, 115, 104] : List UInt8) then (some (20, 40, 310, 0)) else (if a0.toList = ([98, 101, 101, 99, 104] : List UInt8) then (some (35, 45, 410, 0)) else (if a0.toList = ([98, 105, 114, 99, 104] : List UInt8) then (some (15, 33, 280, 0)) else (if a0.toList = ([99, 104, 101, 114, 114, 121] : List UInt8) then (some (50, 36, 240, 0)) else (if a0.toList = ([101, 98, 111, 110, 121] : List UInt8) then (some (95, 85, 270, 0)) else (if a0.toList = ([104, 111, 108, 108, 121] : List UInt8) then (some (5, 35, 370, 0)) else (if a0.toList = ([109, 97, 112, 108, 101] : List UInt8) then (some (10, 42, 290, 0)) else (if a0.toList = ([111, 97, 107] : List UInt8) then (some (40, 40, 330, 0)) else (if a0.toList = ([114, 111, 115, 101, 119, 111, 111, 100] : List UInt8) then (some (80, 60, 220, 0)) else (if a0.toList = ([119, 97, 108, 110, 117, 116] : List UInt8) then (some (70, 38, 260, 0)) else (some (0, 0, 0, 3)))))))))))
set_option maxHeartbeats 8000000 in
set_option maxRecDepth 100000 in
theorem cO_.calls (a0 : ByteArray) (r1 : Int) (r2 : Int) (r3 : Int) (r4 : Int) (w : World) (h : cO_.f a0 = some (r1, r2, r3, r4)) :
  Calls Tryd.prog 80 #[.string a0] w fun e w' => e = .returned (.tuple #[.int .i64 r1, .int .i64 r2, .int .i64 r3, .int .i64 r4]) ∧ au_ w w' := by
 have H : (if a0.toList = ([97, 115, 104] : List UInt8) then (some (20, 40, 310, 0)) else (if a0.toList = ([98, 101, 101, 99, 104] : List UInt8) then (some (35, 45, 410, 0)) else (if a0.toList = ([98, 105, 114, 99, 104] : List UInt8) then (some (15, 33, 280, 0)) else (if a0.toList = ([99, 104, 101, 114, 114, 121] : List UInt8) then (some (50, 36, 240, 0)) else (if a0.toList = ([101, 98, 111, 110, 121] : List UInt8) then (some (95, 85, 270, 0)) else (if a0.toList = ([104, 111, 108, 108, 121] : List UInt8) then (some (5, 35, 370, 0)) else (if a0.toList = ([109, 97, 112, 108, 101] : List UInt8) then (some (10, 42, 290, 0)) else (if a0.toList = ([111, 97, 107] : List UInt8) then (some (40, 40, 330, 0)) else (if a0.toList = ([114, 111, 115, 101, 119, 111, 111, 100] : List UInt8) then (some (80, 60, 220, 0)) else (if a0.toList = ([119, 97, 108, 110, 117, 116] : List UInt8) then (some (70, 38, 260, 0)) else (some (0, 0, 0, 3)))))))))))) = some (r1, r2, r3, r4) := h
 clear h
 by_cases c2 : a0.toList = ([97, 115, 104] : List UInt8)
 rotate_left
 ·rw [if_neg c2] at H
  have c2b0 : (a0.toList == ([97, 115, 104] : List UInt8)) = false := beq_eq_false_iff_ne.mpr c2
  have c2b1 : (a0.toList != ([97, 115, 104] : List UInt8)) = true := bne_iff_ne.mpr c2
  by_cases c3 : a0.toList = ([98, 101, 101, 99, 104] : List UInt8)
  rotate_left
  ·rw [if_neg c3] at H
   have c3b0 : (a0.toList == ([98, 101, 101, 99, 104] : List UInt8)) = false := beq_eq_false_iff_ne.mpr c3
   have c3b1 : (a0.toList != ([98, 101, 101, 99, 104] : List UInt8)) = true := bne_iff_ne.mpr c3
   by_cases c4 : a0.toList = ([98, 105, 114, 99, 104] : List UInt8)
   rotate_left
   ·rw [if_neg c4] at H
    have c4b0 : (a0.toList == ([98, 105, 114, 99, 104] : List UInt8)) = false := beq_eq_false_iff_ne.mpr c4
    have c4b1 : (a0.toList != ([98, 105, 114, 99, 104] : List UInt8)) = true := bne_iff_ne.mpr c4
    by_cases c5 : a0.toList = ([99, 104, 101, 114, 114, 121] : List UInt8)
    rotate_left
    ·rw [if_neg c5] at H
     have c5b0 : (a0.toList == ([99, 104, 101, 114, 114, 121] : List UInt8)) = false := beq_eq_false_iff_ne.mpr c5
     have c5b1 : (a0.toList != ([99, 104, 101, 114, 114, 121] : List UInt8)) = true := bne_iff_ne.mpr c5
     by_cases c6 : a0.toList = ([101, 98, 111, 110, 121] : List UInt8)
     rotate_left
     ·rw [if_neg c6] at H
      have c6b0 : (a0.toList == ([101, 98, 111, 110, 121] : List UInt8)) = false := beq_eq_false_iff_ne.mpr c6
      have c6b1 : (a0.toList != ([101, 98, 111, 110, 121] : List UInt8)) = true := bne_iff_ne.mpr c6
      by_cases c7 : a0.toList = ([104, 111, 108, 108, 121] : List UInt8)
      rotate_left
      ·rw [if_neg c7] at H
       have c7b0 : (a0.toList == ([104, 111, 108, 108, 121] : List UInt8)) = false := beq_eq_false_iff_ne.mpr c7
       have c7b1 : (a0.toList != ([104, 111, 108, 108, 121] : List UInt8)) = true := bne_iff_ne.mpr c7
       by_cases c8 : a0.toList = ([109, 97, 112, 108, 101] : List UInt8)
       rotate_left
       ·rw [if_neg c8] at H
        have c8b0 : (a0.toList == ([109, 97, 112, 108, 101] : List UInt8)) = false := beq_eq_false_iff_ne.mpr c8
        have c8b1 : (a0.toList != ([109, 97, 112, 108, 101] : List UInt8)) = true := bne_iff_ne.mpr c8
        by_cases c9 : a0.toList = ([111, 97, 107] : List UInt8)
        rotate_left
        ·rw [if_neg c9] at H
         have c9b0 : (a0.toList == ([111, 97, 107] : List UInt8)) = false := beq_eq_false_iff_ne.mpr c9
         have c9b1 : (a0.toList != ([111, 97, 107] : List UInt8)) = true := bne_iff_ne.mpr c9
         by_cases c10 : a0.toList = ([114, 111, 115, 101, 119, 111, 111, 100] : List UInt8)
         rotate_left
         ·rw [if_neg c10] at H
          have c10b0 : (a0.toList == ([114, 111, 115, 101, 119, 111, 111, 100] : List UInt8)) = false := beq_eq_false_iff_ne.mpr c10
          have c10b1 : (a0.toList != ([114, 111, 115, 101, 119, 111, 111, 100] : List UInt8)) = true := bne_iff_ne.mpr c10
          by_cases c11 : a0.toList = ([119, 97, 108, 110, 117, 116] : List UInt8)
          rotate_left
          ·rw [if_neg c11] at H
           have c11b0 : (a0.toList == ([119, 97, 108, 110, 117, 116] : List UInt8)) = false := beq_eq_false_iff_ne.mpr c11
           have c11b1 : (a0.toList != ([119, 97, 108, 110, 117, 116] : List UInt8)) = true := bne_iff_ne.mpr c11
           simp only [Option.some.injEq, Prod.mk.injEq] at H
           obtain ⟨rfl, rfl, rfl, rfl⟩ := H
           go_enter Tryd.func80, Tryd.ntmps80
           go_wp2
           refine bodyPost_ret (cD_ (rs := [.tmp 2, .tmp 3, .tmp 4, .tmp 5]) rfl (by simp) (.tmp (.tmp (.tmp (.tmp .nil))))) rfl ?_
           exact ⟨by first | rfl | (simp; done) | (simp [*]; done), by repeat (first | exact au_.refl _ | apply au_.step)⟩
          rw [if_pos c11] at H
          have c11b0 : (a0.toList == ([119, 97, 108, 110, 117, 116] : List UInt8)) = true := beq_iff_eq.mpr c11
          have c11b1 : (a0.toList != ([119, 97, 108, 110, 117, 116] : List UInt8)) = false := bne_eq_false_iff_eq.mpr c11
          clear c11
          simp only [Option.some.injEq, Prod.mk.injEq] at H
          obtain ⟨rfl, rfl, rfl, rfl⟩ := H
          go_enter Tryd.func80, Tryd.ntmps80
          go_wp2
          refine bodyPost_ret (cD_ (rs := [.tmp 2, .tmp 3, .tmp 4, .tmp 5]) rfl (by simp) (.tmp (.tmp (.tmp (.tmp .nil))))) rfl ?_
          exact ⟨by first | rfl | (simp; done) | (simp [*]; done), by repeat (first | exact au_.refl _ | apply au_.step)⟩
         rw [if_pos c10] at H
         have c10b0 : (a0.toList == ([114, 111, 115, 101, 119, 111, 111, 100] : List UInt8)) = true := beq_iff_eq.mpr c10
         have c10b1 : (a0.toList != ([114, 111, 115, 101, 119, 111, 111, 100] : List UInt8)) = false := bne_eq_false_iff_eq.mpr c10
         clear c10
         simp only [Option.some.injEq, Prod.mk.injEq] at H
         obtain ⟨rfl, rfl, rfl, rfl⟩ := H
         go_enter Tryd.func80, Tryd.ntmps80
         go_wp2
         refine bodyPost_ret (cD_ (rs := [.tmp 2, .tmp 3, .tmp 4, .tmp 5]) rfl (by simp) (.tmp (.tmp (.tmp (.tmp .nil))))) rfl ?_
         exact ⟨by first | rfl | (simp; done) | (simp [*]; done), by repeat (first | exact au_.refl _ | apply au_.step)⟩
        rw [if_pos c9] at H
        have c9b0 : (a0.toList == ([111, 97, 107] : List UInt8)) = true := beq_iff_eq.mpr c9
        have c9b1 : (a0.toList != ([111, 97, 107] : List UInt8)) = false := bne_eq_false_iff_eq.mpr c9
        clear c9
        simp only [Option.some.injEq, Prod.mk.injEq] at H
        obtain ⟨rfl, rfl, rfl, rfl⟩ := H
        go_enter Tryd.func80, Tryd.ntmps80
        go_wp2
        refine bodyPost_ret (cD_ (rs := [.tmp 2, .tmp 3, .tmp 4, .tmp 5]) rfl (by simp) (.tmp (.tmp (.tmp (.tmp .nil))))) rfl ?_
        exact ⟨by first | rfl | (simp; done) | (simp [*]; done), by repeat (first | exact au_.refl _ | apply au_.step)⟩
       rw [if_pos c8] at H
       have c8b0 : (a0.toList == ([109, 97, 112, 108, 101] : List UInt8)) = true := beq_iff_eq.mpr c8
       have c8b1 : (a0.toList != ([109, 97, 112, 108, 101] : List UInt8)) = false := bne_eq_false_iff_eq.mpr c8
       clear c8
       simp only [Option.some.injEq, Prod.mk.injEq] at H
       obtain ⟨rfl, rfl, rfl, rfl⟩ := H
       go_enter Tryd.func80, Tryd.ntmps80
       go_wp2
       refine bodyPost_ret (cD_ (rs := [.tmp 2, .tmp 3, .tmp 4, .tmp 5]) rfl (by simp) (.tmp (.tmp (.tmp (.tmp .nil))))) rfl ?_
       exact ⟨by first | rfl | (simp; done) | (simp [*]; done), by repeat (first | exact au_.refl _ | apply au_.step)⟩
      rw [if_pos c7] at H
      have c7b0 : (a0.toList == ([104, 111, 108, 108, 121] : List UInt8)) = true := beq_iff_eq.mpr c7
      have c7b1 : (a0.toList != ([104, 111, 108, 108, 121] : List UInt8)) = false := bne_eq_false_iff_eq.mpr c7
      clear c7
      simp only [Option.some.injEq, Prod.mk.injEq] at H
      obtain ⟨rfl, rfl, rfl, rfl⟩ := H
      go_enter Tryd.func80, Tryd.ntmps80
      go_wp2
      refine bodyPost_ret (cD_ (rs := [.tmp 2, .tmp 3, .tmp 4, .tmp 5]) rfl (by simp) (.tmp (.tmp (.tmp (.tmp .nil))))) rfl ?_
      exact ⟨by first | rfl | (simp; done) | (simp [*]; done), by repeat (first | exact au_.refl _ | apply au_.step)⟩
     rw [if_pos c6] at H
     have c6b0 : (a0.toList == ([101, 98, 111, 110, 121] : List UInt8)) = true := beq_iff_eq.mpr c6
     have c6b1 : (a0.toList != ([101, 98, 111, 110, 121] : List UInt8)) = false := bne_eq_false_iff_eq.mpr c6
     clear c6
     simp only [Option.some.injEq, Prod.mk.injEq] at H
     obtain ⟨rfl, rfl, rfl, rfl⟩ := H
     go_enter Tryd.func80, Tryd.ntmps80
     go_wp2
     refine bodyPost_ret (cD_ (rs := [.tmp 2, .tmp 3, .tmp 4, .tmp 5]) rfl (by simp) (.tmp (.tmp (.tmp (.tmp .nil))))) rfl ?_
     exact ⟨by first | rfl | (simp; done) | (simp [*]; done), by repeat (first | exact au_.refl _ | apply au_.step)⟩
    rw [if_pos c5] at H
    have c5b0 : (a0.toList == ([99, 104, 101, 114, 114, 121] : List UInt8)) = true := beq_iff_eq.mpr c5
    have c5b1 : (a0.toList != ([99, 104, 101, 114, 114, 121] : List UInt8)) = false := bne_eq_false_iff_eq.mpr c5
    clear c5
    simp only [Option.some.injEq, Prod.mk.injEq] at H
    obtain ⟨rfl, rfl, rfl, rfl⟩ := H
    go_enter Tryd.func80, Tryd.ntmps80
    go_wp2
    refine bodyPost_ret (cD_ (rs := [.tmp 2, .tmp 3, .tmp 4, .tmp 5]) rfl (by simp) (.tmp (.tmp (.tmp (.tmp .nil))))) rfl ?_
    exact ⟨by first | rfl | (simp; done) | (simp [*]; done), by repeat (first | exact au_.refl _ | apply au_.step)⟩
   rw [if_pos c4] at H
   have c4b0 : (a0.toList == ([98, 105, 114, 99, 104] : List UInt8)) = true := beq_iff_eq.mpr c4
   have c4b1 : (a0.toList != ([98, 105, 114, 99, 104] : List UInt8)) = false := bne_eq_false_iff_eq.mpr c4
   clear c4
   simp only [Option.some.injEq, Prod.mk.injEq] at H
   obtain ⟨rfl, rfl, rfl, rfl⟩ := H
   go_enter Tryd.func80, Tryd.ntmps80
   go_wp2
   refine bodyPost_ret (cD_ (rs := [.tmp 2, .tmp 3, .tmp 4, .tmp 5]) rfl (by simp) (.tmp (.tmp (.tmp (.tmp .nil))))) rfl ?_
   exact ⟨by first | rfl | (simp; done) | (simp [*]; done), by repeat (first | exact au_.refl _ | apply au_.step)⟩
  rw [if_pos c3] at H
  have c3b0 : (a0.toList == ([98, 101, 101, 99, 104] : List UInt8)) = true := beq_iff_eq.mpr c3
  have c3b1 : (a0.toList != ([98, 101, 101, 99, 104] : List UInt8)) = false := bne_eq_false_iff_eq.mpr c3
  clear c3
  simp only [Option.some.injEq, Prod.mk.injEq] at H
  obtain ⟨rfl, rfl, rfl, rfl⟩ := H
  go_enter Tryd.func80, Tryd.ntmps80
  go_wp2
  refine bodyPost_ret (cD_ (rs := [.tmp 2, .tmp 3, .tmp 4, .tmp 5]) rfl (by simp) (.tmp (.tmp (.tmp (.tmp .nil))))) rfl ?_
  exact ⟨by first | rfl | (simp; done) | (simp [*]; done), by repeat (first | exact au_.refl _ | apply au_.step)⟩
 rw [if_pos c2] at H
 have c2b0 : (a0.toList == ([97, 115, 104] : List UInt8)) = true := beq_iff_eq.mpr c2
 have c2b1 : (a0.toList != ([97, 115, 104] : List UInt8)) = false := bne_eq_false_iff_eq.mpr c2
 clear c2
 simp only [Option.some.injEq, Prod.mk.injEq] at H
 obtain ⟨rfl, rfl, rfl, rfl⟩ := H
 go_enter Tryd.func80, Tryd.ntmps80
 go_wp2
 refine bodyPost_ret (cD_ (rs := [.tmp 2, .tmp 3, .tmp 4, .tmp 5]) rfl (by simp) (.tmp (.tmp (.tmp (.tmp .nil))))) rfl ?_
 exact ⟨by first | rfl | (simp; done) | (simp [*]; done), by repeat (first | exact au_.refl _ | apply au_.step)⟩
def bT_.f (a0 : ByteArray) : Option (Int × Bool) := (cO_.f a0).bind fun bt101 => (some (bt101.1, (bt101.2.2.2 == 0)))
set_option maxHeartbeats 8000000 in
set_option maxRecDepth 100000 in
theorem bT_.calls (a0 : ByteArray) (r1 : Int) (r2 : Bool) (w : World) (h : bT_.f a0 = some (r1, r2)) :
  Calls Tryd.prog 74 #[.string a0] w fun e w' => e = .returned (.tuple #[.int .i64 r1, .bool r2]) ∧ au_ w w' := by
 have H : ((cO_.f a0).bind fun bt101 => (some (bt101.1, (bt101.2.2.2 == 0)))) = some (r1, r2) := h
 clear h
 replace H := Option.bind_eq_some_iff.mp H
 obtain ⟨⟨t101, t102, t103, t104⟩, A20, H⟩ := H
 (try dsimp only at H)
 have A2 := Aside0.mk A20
 clear A20
 simp only [Option.some.injEq, Prod.mk.injEq] at H
 obtain ⟨rfl, rfl⟩ := H
 go_enter Tryd.func74, Tryd.ntmps74
 go_wp2_with (first | ((with_reducible refine as_ (f := 80) rfl ?_); refine bw_ (some 10) rfl rfl Tryd.func80 (by kernel_rfl) rfl #[.string a0] rfl (by first | rfl | (simp only [lma_, lmc_, lmn_]; first | done | rfl)) ?_; (with_reducible refine (cO_.calls a0 t101 t102 t103 t104 _ A2.out).mono ?_); rintro e w' ⟨rfl, ⟨nd, rfl⟩⟩; refine ⟨_, rfl, ?_⟩))
 go_ret2
 exact ⟨by first | rfl | (simp; done) | (simp [*]; done), by repeat (first | exact au_.refl _ | apply au_.step)⟩
def ct_.f (a0_0 : ByteArray) (a0_1 : Int) (a0_2 : Int) : Option (Bool) := (bT_.f a0_0).bind fun bt102 => (if bt102.2 = true then ((aF_.f a0_1 0 100).bind fun t104 => (if t104 = true then ((aF_.f (wrap64 (a0_1 - bt102.1)) (-15) 15).bind fun t105 => (if t105 = true then ((aF_.f a0_2 0 179).bind fun t106 => (some t106)) else (some false))) else (some false))) else (some false))
set_option maxHeartbeats 8000000 in
set_option maxRecDepth 100000 in
theorem ct_.calls (a0_0 : ByteArray) (a0_1 : Int) (a0_2 : Int) (r : Bool) (w : World) (h : ct_.f a0_0 a0_1 a0_2 = some r) :
  Calls Tryd.prog 57 #[.agg #[.string a0_0, .int .i64 a0_1, .int .i64 a0_2]] w fun e w' => e = .returned (.bool r) ∧ Below w.heap.size w w' := by
 have hu57 := Tryd.underlying57
 have HB := Aside0.mk (Below.refl w.heap.size w)
 have H : ((bT_.f a0_0).bind fun bt102 => (if bt102.2 = true then ((aF_.f a0_1 0 100).bind fun t104 => (if t104 = true then ((aF_.f (wrap64 (a0_1 - bt102.1)) (-15) 15).bind fun t105 => (if t105 = true then ((aF_.f a0_2 0 179).bind fun t106 => (some t106)) else (some false))) else (some false))) else (some false))) = some r := h
 clear h
 replace H := Option.bind_eq_some_iff.mp H
 obtain ⟨⟨t102, t103⟩, A20, H⟩ := H
 (try dsimp only at H)
 have A2 := Aside0.mk A20
 clear A20
 by_cases c3 : t103 = true
 rotate_left
 ·replace c3 := Bool.eq_false_iff.mpr c3
  subst c3
  have H1 : (some false) = some r := by rw [if_neg (show ¬ (false = true) by decide)] at H; exact H
  clear H
  have H := H1
  clear H1
  obtain rfl := Option.some.inj H
  go_enter Tryd.func57, Tryd.ntmps57
  go_wp2_with (first | ((with_reducible refine aL_ (N := 1) rfl ?_); refine bz_ ?hg (N := 1) ?hd (cs := #[.string a0_0, .int .i64 a0_1, .int .i64 a0_2]) (t := 57) ?hr ?_; (case hd => rfl); (case hg => rfl); (case hr => (go_simp; try rfl)); intro gb101 hg w15 hbox hb; have BK101 := Aside0.mk (hbox); have GW101 := Aside0.mk ((by rw [hg]; exact (ag_ (bz HB.out)) : w.heap.size ≤ gb101)); have GE101 := GW101; replace HB := Aside0.mk (ab_ (bz HB.out) hb); clear hb hbox hg; obtain ⟨hcz16_0, hcz16_1, hcz16_2⟩ := cz3_ BK101.out; obtain ⟨hfz16_0, hfz16_1, hfz16_2⟩ := fz3_ BK101.out) | ((with_reducible refine as_ (f := 74) rfl ?_); refine bw_ (some 8) rfl rfl Tryd.func74 (by kernel_rfl) rfl #[.string a0_0] rfl (by first | rfl | (simp only [lma_, lmc_, lmn_]; first | done | rfl)) ?_; (with_reducible refine (bT_.calls a0_0 t102 false _ A2.out).mono ?_); rintro e w' ⟨rfl, ⟨nd, rfl⟩⟩; refine ⟨_, rfl, ?_⟩))
  go_ret
  exact ⟨by first | rfl | (simp [*, ap_, ao_] <;> rfl), bq⟩
 subst c3
 have H1 : ((aF_.f a0_1 0 100).bind fun t104 => (if t104 = true then ((aF_.f (wrap64 (a0_1 - t102)) (-15) 15).bind fun t105 => (if t105 = true then ((aF_.f a0_2 0 179).bind fun t106 => (some t106)) else (some false))) else (some false))) = some r := by rw [if_pos rfl] at H; exact H
 clear H
 have H := H1
 clear H1
 replace H := Option.bind_eq_some_iff.mp H
 obtain ⟨t104, A40, H⟩ := H
 (try dsimp only at H)
 have A4 := Aside0.mk A40
 clear A40
 by_cases c5 : t104 = true
 rotate_left
 ·replace c5 := Bool.eq_false_iff.mpr c5
  subst c5
  have H1 : (some false) = some r := by rw [if_neg (show ¬ (false = true) by decide)] at H; exact H
  clear H
  have H := H1
  clear H1
  obtain rfl := Option.some.inj H
  go_enter Tryd.func57, Tryd.ntmps57
  go_wp2_with (first | ((with_reducible refine aL_ (N := 1) rfl ?_); refine bz_ ?hg (N := 1) ?hd (cs := #[.string a0_0, .int .i64 a0_1, .int .i64 a0_2]) (t := 57) ?hr ?_; (case hd => rfl); (case hg => rfl); (case hr => (go_simp; try rfl)); intro gb101 hg w13 hbox hb; have BK101 := Aside0.mk (hbox); have GW101 := Aside0.mk ((by rw [hg]; exact (ag_ (bz HB.out)) : w.heap.size ≤ gb101)); have GE101 := GW101; replace HB := Aside0.mk (ab_ (bz HB.out) hb); clear hb hbox hg; obtain ⟨hcz14_0, hcz14_1, hcz14_2⟩ := cz3_ BK101.out; obtain ⟨hfz14_0, hfz14_1, hfz14_2⟩ := fz3_ BK101.out) | ((with_reducible refine as_ (f := 74) rfl ?_); refine bw_ (some 8) rfl rfl Tryd.func74 (by kernel_rfl) rfl #[.string a0_0] rfl (by first | rfl | (simp only [lma_, lmc_, lmn_]; first | done | rfl)) ?_; (with_reducible refine (bT_.calls a0_0 t102 true _ A2.out).mono ?_); rintro e w' ⟨rfl, ⟨nd, rfl⟩⟩; refine ⟨_, rfl, ?_⟩) | (go_at_call 29; (with_reducible refine (aF_.calls a0_1 0 100 false _ A4.out).mono ?_); rintro e w' ⟨rfl, ⟨nd, rfl⟩⟩))
  go_ret
  exact ⟨by first | rfl | (simp [*, ap_, ao_] <;> rfl), bq⟩
 subst c5
 have H1 : ((aF_.f (wrap64 (a0_1 - t102)) (-15) 15).bind fun t105 => (if t105 = true then ((aF_.f a0_2 0 179).bind fun t106 => (some t106)) else (some false))) = some r := by rw [if_pos rfl] at H; exact H
 clear H
 have H := H1
 clear H1
 replace H := Option.bind_eq_some_iff.mp H
 obtain ⟨t105, A60, H⟩ := H
 (try dsimp only at H)
 have A6 := Aside0.mk A60
 clear A60
 by_cases c7 : t105 = true
 rotate_left
 ·replace c7 := Bool.eq_false_iff.mpr c7
  subst c7
  have H1 : (some false) = some r := by rw [if_neg (show ¬ (false = true) by decide)] at H; exact H
  clear H
  have H := H1
  clear H1
  obtain rfl := Option.some.inj H
  go_enter Tryd.func57, Tryd.ntmps57
  go_wp2_with (first | ((with_reducible refine aL_ (N := 1) rfl ?_); refine bz_ ?hg (N := 1) ?hd (cs := #[.string a0_0, .int .i64 a0_1, .int .i64 a0_2]) (t := 57) ?hr ?_; (case hd => rfl); (case hg => rfl); (case hr => (go_simp; try rfl)); intro gb101 hg w11 hbox hb; have BK101 := Aside0.mk (hbox); have GW101 := Aside0.mk ((by rw [hg]; exact (ag_ (bz HB.out)) : w.heap.size ≤ gb101)); have GE101 := GW101; replace HB := Aside0.mk (ab_ (bz HB.out) hb); clear hb hbox hg; obtain ⟨hcz12_0, hcz12_1, hcz12_2⟩ := cz3_ BK101.out; obtain ⟨hfz12_0, hfz12_1, hfz12_2⟩ := fz3_ BK101.out) | ((with_reducible refine as_ (f := 74) rfl ?_); refine bw_ (some 8) rfl rfl Tryd.func74 (by kernel_rfl) rfl #[.string a0_0] rfl (by first | rfl | (simp only [lma_, lmc_, lmn_]; first | done | rfl)) ?_; (with_reducible refine (bT_.calls a0_0 t102 true _ A2.out).mono ?_); rintro e w' ⟨rfl, ⟨nd, rfl⟩⟩; refine ⟨_, rfl, ?_⟩) | (go_at_call 29; (with_reducible refine (aF_.calls a0_1 0 100 true _ A4.out).mono ?_); rintro e w' ⟨rfl, ⟨nd, rfl⟩⟩) | (go_at_call 29; (with_reducible refine (aF_.calls (wrap64 (a0_1 - t102)) (-15) 15 false _ A6.out).mono ?_); rintro e w' ⟨rfl, ⟨nd, rfl⟩⟩))
  go_ret
  exact ⟨by first | rfl | (simp [*, ap_, ao_] <;> rfl), bq⟩
 subst c7
 have H1 : ((aF_.f a0_2 0 179).bind fun t106 => (some t106)) = some r := by rw [if_pos rfl] at H; exact H
 clear H
 have H := H1
 clear H1
 replace H := Option.bind_eq_some_iff.mp H
 obtain ⟨t106, A80, H⟩ := H
 (try dsimp only at H)
 have A8 := Aside0.mk A80
 clear A80
 obtain rfl := Option.some.inj H
 go_enter Tryd.func57, Tryd.ntmps57
 go_wp2_with (first | ((with_reducible refine aL_ (N := 1) rfl ?_); refine bz_ ?hg (N := 1) ?hd (cs := #[.string a0_0, .int .i64 a0_1, .int .i64 a0_2]) (t := 57) ?hr ?_; (case hd => rfl); (case hg => rfl); (case hr => (go_simp; try rfl)); intro gb101 hg w9 hbox hb; have BK101 := Aside0.mk (hbox); have GW101 := Aside0.mk ((by rw [hg]; exact (ag_ (bz HB.out)) : w.heap.size ≤ gb101)); have GE101 := GW101; replace HB := Aside0.mk (ab_ (bz HB.out) hb); clear hb hbox hg; obtain ⟨hcz10_0, hcz10_1, hcz10_2⟩ := cz3_ BK101.out; obtain ⟨hfz10_0, hfz10_1, hfz10_2⟩ := fz3_ BK101.out) | ((with_reducible refine as_ (f := 74) rfl ?_); refine bw_ (some 8) rfl rfl Tryd.func74 (by kernel_rfl) rfl #[.string a0_0] rfl (by first | rfl | (simp only [lma_, lmc_, lmn_]; first | done | rfl)) ?_; (with_reducible refine (bT_.calls a0_0 t102 true _ A2.out).mono ?_); rintro e w' ⟨rfl, ⟨nd, rfl⟩⟩; refine ⟨_, rfl, ?_⟩) | (go_at_call 29; (with_reducible refine (aF_.calls a0_1 0 100 true _ A4.out).mono ?_); rintro e w' ⟨rfl, ⟨nd, rfl⟩⟩) | (go_at_call 29; (with_reducible refine (aF_.calls (wrap64 (a0_1 - t102)) (-15) 15 true _ A6.out).mono ?_); rintro e w' ⟨rfl, ⟨nd, rfl⟩⟩) | (go_at_call 29; (with_reducible refine (aF_.calls a0_2 0 179 t106 _ A8.out).mono ?_); rintro e w' ⟨rfl, ⟨nd, rfl⟩⟩))
 go_ret
 exact ⟨by first | rfl | (simp [*, ap_, ao_] <;> rfl), bq⟩
def bR_.f (k : Nat) (a0_0 : ByteArray) (a0_1 : ByteArray) (a0_2 : Int) (a0_3 : Int) : Option (Bool) := (aK_.f k a0_0).bind fun t102 => (if t102 = true then ((ct_.f a0_1 a0_2 a0_3).bind fun t103 => (some t103)) else (some false))
set_option maxHeartbeats 8000000 in
set_option maxRecDepth 100000 in
theorem bR_.calls (k : Nat) (a0_0 : ByteArray) (a0_1 : ByteArray) (a0_2 : Int) (a0_3 : Int) (r : Bool) (w : World) (h : bR_.f k a0_0 a0_1 a0_2 a0_3 = some r) :
  Calls Tryd.prog 30 #[.agg #[.string a0_0, .string a0_1, .int .i64 a0_2, .int .i64 a0_3]] w fun e w' => e = .returned (.bool r) ∧ Below w.heap.size w w' := by
 have hu59 := Tryd.underlying59
 have hu57 := Tryd.underlying57
 have HB := Aside0.mk (Below.refl w.heap.size w)
 have H : ((aK_.f k a0_0).bind fun t102 => (if t102 = true then ((ct_.f a0_1 a0_2 a0_3).bind fun t103 => (some t103)) else (some false))) = some r := h
 clear h
 replace H := Option.bind_eq_some_iff.mp H
 obtain ⟨t102, A20, H⟩ := H
 (try dsimp only at H)
 have A2 := Aside0.mk A20
 clear A20
 by_cases c3 : t102 = true
 rotate_left
 ·replace c3 := Bool.eq_false_iff.mpr c3
  subst c3
  have H1 : (some false) = some r := by rw [if_neg (show ¬ (false = true) by decide)] at H; exact H
  clear H
  have H := H1
  clear H1
  obtain rfl := Option.some.inj H
  go_enter Tryd.func30, Tryd.ntmps30
  go_wp2_with (first | ((with_reducible refine aL_ (N := 1) rfl ?_); refine bz_ ?hg (N := 1) ?hd (cs := #[.string a0_0, .string a0_1, .int .i64 a0_2, .int .i64 a0_3]) (t := 59) ?hr ?_; (case hd => rfl); (case hg => rfl); (case hr => (go_simp; try rfl)); intro gb101 hg w8 hbox hb; have BK101 := Aside0.mk (hbox); have GW101 := Aside0.mk ((by rw [hg]; exact (ag_ (bz HB.out)) : w.heap.size ≤ gb101)); have GE101 := GW101; replace HB := Aside0.mk (ab_ (bz HB.out) hb); clear hb hbox hg; obtain ⟨hcz9_0, hcz9_1, hcz9_2, hcz9_3⟩ := cz4_ BK101.out; obtain ⟨hfz9_0, hfz9_1, hfz9_2, hfz9_3⟩ := fz4_ BK101.out) | ((with_reducible refine as_ (f := 56) rfl ?_); refine bw_ (some 5) rfl rfl Tryd.func56 (by kernel_rfl) rfl #[.string a0_0] rfl (by first | rfl | (simp only [lma_, lmc_, lmn_]; first | done | rfl)) ?_; (with_reducible refine (aK_.calls k a0_0 false _ A2.out).mono ?_); rintro e w' ⟨rfl, ⟨nd, rfl⟩⟩; refine ⟨_, rfl, ?_⟩))
  go_ret
  exact ⟨by first | rfl | (simp [*, ap_, ao_] <;> rfl), bq⟩
 subst c3
 have H1 : ((ct_.f a0_1 a0_2 a0_3).bind fun t103 => (some t103)) = some r := by rw [if_pos rfl] at H; exact H
 clear H
 have H := H1
 clear H1
 replace H := Option.bind_eq_some_iff.mp H
 obtain ⟨t103, A40, H⟩ := H
 (try dsimp only at H)
 have A4 := Aside0.mk A40
 clear A40
 obtain rfl := Option.some.inj H
 go_enter Tryd.func30, Tryd.ntmps30
 go_wp2_with (first | ((with_reducible refine aL_ (N := 1) rfl ?_); refine bz_ ?hg (N := 1) ?hd (cs := #[.string a0_0, .string a0_1, .int .i64 a0_2, .int .i64 a0_3]) (t := 59) ?hr ?_; (case hd => rfl); (case hg => rfl); (case hr => (go_simp; try rfl)); intro gb101 hg w5 hbox hb; have BK101 := Aside0.mk (hbox); have GW101 := Aside0.mk ((by rw [hg]; exact (ag_ (bz HB.out)) : w.heap.size ≤ gb101)); have GE101 := GW101; replace HB := Aside0.mk (ab_ (bz HB.out) hb); clear hb hbox hg; obtain ⟨hcz6_0, hcz6_1, hcz6_2, hcz6_3⟩ := cz4_ BK101.out; obtain ⟨hfz6_0, hfz6_1, hfz6_2, hfz6_3⟩ := fz4_ BK101.out) | ((with_reducible refine as_ (f := 56) rfl ?_); refine bw_ (some 5) rfl rfl Tryd.func56 (by kernel_rfl) rfl #[.string a0_0] rfl (by first | rfl | (simp only [lma_, lmc_, lmn_]; first | done | rfl)) ?_; (with_reducible refine (aK_.calls k a0_0 true _ A2.out).mono ?_); rintro e w' ⟨rfl, ⟨nd, rfl⟩⟩; refine ⟨_, rfl, ?_⟩) | (go_at_call 57; (with_reducible refine (ct_.calls a0_1 a0_2 a0_3 t103 _ A4.out).mono ?_); rintro e w7 ⟨rfl, hb⟩; replace BK101 := Aside0.mk (aS_ (kz BK101.out) hb); replace HB := Aside0.mk (ab_ (bq) hb); (try clear hb)))
 go_ret
 exact ⟨by first | rfl | (simp [*, ap_, ao_] <;> rfl), bq⟩
def an_.l0 : Nat → List (S59) → List (S59) → Int → Int → Option (Bool)
 | 0, _, _, _, _ => none
 | k + 1, x0, x5, x6, x7 => if x7 < x6 then (if 0 ≤ x7 then (if x7 < (x5.length : Int) then ((bR_.f k ((aa_ x5 x7).f0) ((aa_ x5 x7).f1.f0) ((aa_ x5 x7).f1.f1) ((aa_ x5 x7).f1.f2)).bind fun t103 => (if t103 = true then (if x7 > 0 then (if 0 ≤ (wrap64 (x7 - 1)) then (if (wrap64 (x7 - 1)) < (x0.length : Int) then (if ((Op.bytesLess (((aa_ x0 (wrap64 (x7 - 1))).f0).toList) (((aa_ x5 x7).f0).toList)) = true) then (an_.l0 k x0 x5 x6 (wrap64 (x7 + 1))) else (some false)) else (none)) else (none)) else (an_.l0 k x0 x5 x6 (wrap64 (x7 + 1)))) else (some false))) else (none)) else (none)) else (some (decide ((x0.length : Int) ≤ 24)))
def an_.f (k : Nat) (l0 : List (S59)) : Option (Bool) := an_.l0 k l0 l0 (l0.length : Int) 0
def an_.T4 : Bool × List (List Nat × List Nat) := (true, [([], []), ([0], [0]), ([1], [1]), ([2, 1], [2]), ([3], [3]), ([4, 3], [3, 4]), ([5, 3, 3], [3, 5]), ([6], [6]), ([6], [6]), ([8, 6], [6, 8]), ([7, 9, 6], [6, 7, 9]), ([10, 6], [6, 10]), ([11, 6], [6, 11]), ([6], [6]), ([13, 6], [6, 13]), ([12, 14, 6], [6, 12, 14]), ([6, 15, 3], [3, 6, 15]), ([3, 16], [3, 16])])
def an_.B4 : List Nat := [0, 1, 3, 7, 15, 31, 63, 127, 127, 383, 1023, 2047, 4095, 127, 8319, 32767, 65535, 131071]
theorem an_.tab4 : rtab .any (opsOf Tryd.f24 4) = an_.T4 := by kernel_rfl
theorem an_.bits4 : dz_ an_.T4.2 an_.B4 = true := by kernel_rfl
set_option maxHeartbeats 8000000 in
set_option maxRecDepth 100000 in
theorem an_.calls (k : Nat) (A0 : Option Addr) (c0 : Nat) (l0 : List (S59)) (r : Bool) (w : World) (hr0 : Kd.C k59 w A0 l0.length l0) (hc0 : l0.length ≤ c0) (h : an_.f k l0 = some r) :
  Calls Tryd.prog 24 #[.slice A0 l0.length c0] w fun e w' => e = .returned (.bool r) ∧ Below w.heap.size w w' := by
 have hu59 := Tryd.underlying59
 have HR0 := Aside0.mk hr0
 have HC0 := Aside0.mk hc0
 clear hr0 hc0
 have HB := Aside0.mk (Below.refl w.heap.size w)
 have H : (an_.l0 k l0 l0 (l0.length : Int) 0) = some r := h
 clear h
 have H' := Aside0.mk H
 clear H
 go_enter Tryd.func24, Tryd.ntmps24
 go_wp2
 (try simp only [Act.put, lsa_, ls0_, ls1_])
 go_loopg [7] k (fun kq v7 w' => ∃ (x7_1 : Int), v7 = .int .i64 x7_1 ∧ Aside0 (an_.l0 kq l0 l0 (l0.length : Int) x7_1 = some r) ∧ Aside0 (kq ≤ k) ∧ Aside0 (Below w.heap.size w w'))
 case atStart => exact ⟨(0), (by first | rfl | (simp; done) | (simp [*]; done)), H', ⟨Nat.le_refl _⟩, ⟨bz HB.out⟩⟩
 case round =>
  clear H'
  obtain ⟨x7_1, rfl, HA, HK1, HB⟩ := hrel
  cases gk with
  | zero => exact absurd HA.out (by simp [an_.l0])
  | succ k1 =>
   have H := HA.out
   clear HA
   simp only [an_.l0] at H
   by_cases c2 : x7_1 < (l0.length : Int)
   rotate_left
   ·rw [if_neg c2] at H
    have c2b0 : decide (x7_1 < (l0.length : Int)) = false := decide_eq_false c2
    clear c2
    obtain rfl := Option.some.inj H
    go_wp2
    go_ret
    exact ⟨by first | rfl | (simp [*, ap_, ao_] <;> rfl), bz HB.out⟩
   rw [if_pos c2] at H
   have c2b0 : decide (x7_1 < (l0.length : Int)) = true := decide_eq_true c2
   clear c2
   by_cases c3 : 0 ≤ x7_1
   rotate_left
   ·rw [if_neg c3] at H
    exact absurd H (by simp)
   rw [if_pos c3] at H
   have c3b0 : decide (0 ≤ x7_1) = true := decide_eq_true c3
   clear c3
   by_cases c4 : x7_1 < (l0.length : Int)
   rotate_left
   ·rw [if_neg c4] at H
    exact absurd H (by simp)
   rw [if_pos c4] at H
   have c4b0 : decide (x7_1 < (l0.length : Int)) = true := decide_eq_true c4
   clear c4
   replace H := Option.bind_eq_some_iff.mp H
   obtain ⟨t103, A50, H⟩ := H
   (try dsimp only at H)
   have A5 := Aside0.mk A50
   clear A50
   by_cases c6 : t103 = true
   rotate_left
   ·replace c6 := Bool.eq_false_iff.mpr c6
    subst c6
    have H1 : (some false) = some r := by rw [if_neg (show ¬ (false = true) by decide)] at H; exact H
    clear H
    have H := H1
    clear H1
    obtain rfl := Option.some.inj H
    have p101 : 0 ≤ (x7_1 : Int) := of_decide_eq_true (by assumption)
    have q101 : x7_1 < (l0.length : Int) := of_decide_eq_true (by assumption)
    obtain ⟨ad101, e101, hx101_0, hx101_1, hx101_2, hx101_3⟩ := cH_ HR0.out x7_1 p101 q101
    cases e101
    replace hx101_0 := bu_ HB.out hx101_0
    replace hx101_1 := bu_ HB.out hx101_1
    replace hx101_2 := bu_ HB.out hx101_2
    replace hx101_3 := bu_ HB.out hx101_3
    replace p101 := eq_true p101
    replace q101 := eq_true q101
    try go_wp2_with (first | ((with_reducible refine aL_ (N := 4) rfl ?_); refine bz_ ?hg (N := 4) ?hd (cs := #[.string (⟨#[]⟩ : ByteArray), .string (⟨#[]⟩ : ByteArray), .int .i64 0, .int .i64 0]) (t := 59) ?hr ?_; (case hd => rfl); (case hg => rfl); (case hr => (go_simp; try rfl)); intro gb102 hg w23 hbox hb; have BK102 := Aside0.mk (hbox); have GW102 := Aside0.mk ((by rw [hg]; exact (ag_ (bz HB.out)) : w.heap.size ≤ gb102)); have GE102 := GW102; replace HB := Aside0.mk (ab_ (bz HB.out) hb); clear hb hbox hg; obtain ⟨hcz24_0, hcz24_1, hcz24_2, hcz24_3⟩ := cz4_ BK102.out; obtain ⟨hfz24_0, hfz24_1, hfz24_2, hfz24_3⟩ := fz4_ BK102.out))
    have n0_ : Aside0 (((((w23.setCell ⟨gb102, 0, none⟩ (.string ((aa_ l0 x7_1).f0))).setCell ⟨gb102, 1, none⟩ (.string ((aa_ l0 x7_1).f1.f0))).setCell ⟨gb102, 2, none⟩ (.int .i64 ((aa_ l0 x7_1).f1.f1))).setCell ⟨gb102, 3, none⟩ (.int .i64 ((aa_ l0 x7_1).f1.f2))).heap[gb102]? = some (.cells #[.string ((aa_ l0 x7_1).f0), .string ((aa_ l0 x7_1).f1.f0), .int .i64 ((aa_ l0 x7_1).f1.f1), .int .i64 ((aa_ l0 x7_1).f1.f2)] 59 (0, 0))) := ⟨by exact kj4_3 (kj4_2 (kj4_1 (kj4_0 (kz BK102.out))))⟩
    have n1_ : Aside0 (Below w.heap.size w ((((w23.setCell ⟨gb102, 0, none⟩ (.string ((aa_ l0 x7_1).f0))).setCell ⟨gb102, 1, none⟩ (.string ((aa_ l0 x7_1).f1.f0))).setCell ⟨gb102, 2, none⟩ (.int .i64 ((aa_ l0 x7_1).f1.f1))).setCell ⟨gb102, 3, none⟩ (.int .i64 ((aa_ l0 x7_1).f1.f2)))) := ⟨bq⟩
    (try clear BK102)
    (try clear HB)
    generalize ((((w23.setCell ⟨gb102, 0, none⟩ (.string ((aa_ l0 x7_1).f0))).setCell ⟨gb102, 1, none⟩ (.string ((aa_ l0 x7_1).f1.f0))).setCell ⟨gb102, 2, none⟩ (.int .i64 ((aa_ l0 x7_1).f1.f1))).setCell ⟨gb102, 3, none⟩ (.int .i64 ((aa_ l0 x7_1).f1.f2))) = w25 at n0_ n1_ ⊢
    have BK102 := n0_
    have HB := n1_
    clear n0_ n1_
    have n0_ := Aside0.mk (cc_ BK102.out)
    have n1_ := Aside0.mk (bD_ HB.out)
    clear BK102
    clear HB
    have BK102 := n0_
    have HB := n1_
    clear n0_ n1_
    refine start_ (n := 18) (S := fun w' => w'.cell? ⟨gb102, 0, none⟩ = some (.string ((aa_ l0 x7_1).f0)) ∧ w'.cell? ⟨gb102, 1, none⟩ = some (.string ((aa_ l0 x7_1).f1.f0)) ∧ w'.cell? ⟨gb102, 2, none⟩ = some (.int .i64 ((aa_ l0 x7_1).f1.f1)) ∧ w'.cell? ⟨gb102, 3, none⟩ = some (.int .i64 ((aa_ l0 x7_1).f1.f2))) (ds := []) #[f_,f_,f_,f_,f_,f_,f_,f_,f_,f_,f_,f_,f_,f_,f_,f_,f_,f_] (by kernel_rfl) rfl rfl ⟨(aO_ BK102.out 0).trans rfl, (aO_ BK102.out 1).trans rfl, (aO_ BK102.out 2).trans rfl, (aO_ BK102.out 3).trans rfl⟩ (fun hHeld => ?_); refine db_ an_.tab4 an_.bits4 (fun HT_ HW_ => ?_)
    generalize w25.drew = w26 at BK102 HB hHeld ⊢
    refine tk 0 12 #[t_,f_,f_,f_,f_,f_,f_,f_,f_,f_,f_,f_,f_,f_,f_,f_,f_,f_] HT_ HW_ hHeld ?_ (hv := by rintro w' ⟨s0, s1, s2, s3⟩; go_simp; with_reducible rfl)
    refine one_ (i := 1) (N := some 13) #[t_,t_,f_,f_,f_,f_,f_,f_,f_,f_,f_,f_,f_,f_,f_,f_,f_,f_] rfl rfl (cV_ HT_.out (by kernel_rfl)) (by decide) (fun K hK => ?_)
    (first | refine goes_ Tryd.func30 (by kernel_rfl) rfl #[.agg #[.string ((aa_ l0 x7_1).f0), .string ((aa_ l0 x7_1).f1.f0), .int .i64 ((aa_ l0 x7_1).f1.f1), .int .i64 ((aa_ l0 x7_1).f1.f2)]] (by rfl) rfl rfl (by first | rfl | (simp only [lma_, lmc_, lmn_]; first | done | rfl)) ?_ | refine RPW.cX_ Tryd.func30 (by kernel_rfl) rfl #[.agg #[.string ((aa_ l0 x7_1).f0), .string ((aa_ l0 x7_1).f1.f0), .int .i64 ((aa_ l0 x7_1).f1.f1), .int .i64 ((aa_ l0 x7_1).f1.f2)]] (by rfl) rfl rfl rfl (by first | rfl | (simp only [lma_, lmc_, lmn_]; first | done | rfl)) ?_ | refine RPW.cY_ Tryd.func30 (by kernel_rfl) rfl #[.agg #[.string ((aa_ l0 x7_1).f0), .string ((aa_ l0 x7_1).f1.f0), .int .i64 ((aa_ l0 x7_1).f1.f1), .int .i64 ((aa_ l0 x7_1).f1.f2)]] (by rfl) rfl rfl rfl (by first | rfl | (simp only [lma_, lmc_, lmn_]; first | done | rfl)) ?_)
    with_reducible refine (bR_.calls k1 ((aa_ l0 x7_1).f0) ((aa_ l0 x7_1).f1.f0) ((aa_ l0 x7_1).f1.f1) ((aa_ l0 x7_1).f1.f2) false _ A5.out).mono ?_
    rintro e w27 ⟨rfl, hb⟩
    refine ⟨_, rfl, ?_⟩
    have n0_ := Aside0.mk (aS_ (kz BK102.out) hb)
    have n1_ := Aside0.mk (ab_ (bq) hb)
    clear BK102
    clear HB
    have BK102 := n0_
    have HB := n1_
    clear n0_ n1_
    (try clear hb)
    refine hK.out _ _ ⟨(aO_ BK102.out 0).trans rfl, (aO_ BK102.out 1).trans rfl, (aO_ BK102.out 2).trans rfl, (aO_ BK102.out 3).trans rfl⟩ (fun hHeld => ?_)
    clear hK K
    refine norm_ (a' := ?_) ?_ ?_
    rotate_left
    ·show Act.put _ (some 13) _ = _
     simp only [Act.put, lsa_, ls0_, ls1_, i64_w, i32_w]
     rfl
    refine pu 2 14 #[t_,t_,t_,f_,f_,f_,f_,f_,f_,f_,f_,f_,f_,f_,f_,f_,f_,f_] HT_ ?_
    refine pu 3 15 #[t_,t_,t_,t_,f_,f_,f_,f_,f_,f_,f_,f_,f_,f_,f_,f_,f_,f_] HT_ ?_
    refine pn 4 16 #[t_,t_,t_,t_,t_,f_,f_,f_,f_,f_,f_,f_,f_,f_,f_,f_,f_,f_] HT_ ?_
    refine pn 5 17 #[t_,t_,t_,t_,t_,t_,f_,f_,f_,f_,f_,f_,f_,f_,f_,f_,f_,f_] HT_ ?_
    refine pn 6 18 #[t_,t_,t_,t_,t_,t_,t_,f_,f_,f_,f_,f_,f_,f_,f_,f_,f_,f_] HT_ ?_
    refine pn 7 19 #[t_,t_,t_,t_,t_,t_,t_,t_,f_,f_,f_,f_,f_,f_,f_,f_,f_,f_] HT_ ?_
    refine pn 8 20 #[t_,t_,t_,t_,t_,t_,t_,t_,t_,f_,f_,f_,f_,f_,f_,f_,f_,f_] HT_ ?_
    refine pn 9 21 #[t_,t_,t_,t_,t_,t_,t_,t_,t_,t_,f_,f_,f_,f_,f_,f_,f_,f_] HT_ ?_
    refine pn 10 22 #[t_,t_,t_,t_,t_,t_,t_,t_,t_,t_,t_,f_,f_,f_,f_,f_,f_,f_] HT_ ?_
    refine pn 11 23 #[t_,t_,t_,t_,t_,t_,t_,t_,t_,t_,t_,t_,f_,f_,f_,f_,f_,f_] HT_ ?_
    refine pn 12 24 #[t_,t_,t_,t_,t_,t_,t_,t_,t_,t_,t_,t_,t_,f_,f_,f_,f_,f_] HT_ ?_
    refine pn 13 25 #[t_,t_,t_,t_,t_,t_,t_,t_,t_,t_,t_,t_,t_,t_,f_,f_,f_,f_] HT_ ?_
    refine pn 14 26 #[t_,t_,t_,t_,t_,t_,t_,t_,t_,t_,t_,t_,t_,t_,t_,f_,f_,f_] HT_ ?_
    refine pn 15 27 #[t_,t_,t_,t_,t_,t_,t_,t_,t_,t_,t_,t_,t_,t_,t_,t_,f_,f_] HT_ ?_
    refine pn 16 28 #[t_,t_,t_,t_,t_,t_,t_,t_,t_,t_,t_,t_,t_,t_,t_,t_,t_,f_] HT_ ?_
    refine pu 17 29 #[t_,t_,t_,t_,t_,t_,t_,t_,t_,t_,t_,t_,t_,t_,t_,t_,t_,t_] HT_ ?_
    refine done_ (dH_ HT_.out (by kernel_rfl)) ?_
    try go_wp2
    go_ret
    exact ⟨by first | rfl | (simp [*, ap_, ao_] <;> rfl), bq⟩
   subst c6
   have H1 : (if x7_1 > 0 then (if 0 ≤ (wrap64 (x7_1 - 1)) then (if (wrap64 (x7_1 - 1)) < (l0.length : Int) then (if ((Op.bytesLess (((aa_ l0 (wrap64 (x7_1 - 1))).f0).toList) (((aa_ l0 x7_1).f0).toList)) = true) then (an_.l0 k1 l0 l0 (l0.length : Int) (wrap64 (x7_1 + 1))) else (some false)) else (none)) else (none)) else (an_.l0 k1 l0 l0 (l0.length : Int) (wrap64 (x7_1 + 1)))) = some r := by rw [if_pos rfl] at H; exact H
   clear H
   have H := H1
   clear H1
   by_cases c7 : x7_1 > 0
   rotate_left
   ·rw [if_neg c7] at H
    have c7b0 : decide (0 < x7_1) = false := decide_eq_false c7
    clear c7
    have H' := Aside0.mk H
    clear H
    have p101 : 0 ≤ (x7_1 : Int) := of_decide_eq_true (by assumption)
    have q101 : x7_1 < (l0.length : Int) := of_decide_eq_true (by assumption)
    obtain ⟨ad101, e101, hx101_0, hx101_1, hx101_2, hx101_3⟩ := cH_ HR0.out x7_1 p101 q101
    cases e101
    replace hx101_0 := bu_ HB.out hx101_0
    replace hx101_1 := bu_ HB.out hx101_1
    replace hx101_2 := bu_ HB.out hx101_2
    replace hx101_3 := bu_ HB.out hx101_3
    replace p101 := eq_true p101
    replace q101 := eq_true q101
    try go_wp2_with (first | ((with_reducible refine aL_ (N := 4) rfl ?_); refine bz_ ?hg (N := 4) ?hd (cs := #[.string (⟨#[]⟩ : ByteArray), .string (⟨#[]⟩ : ByteArray), .int .i64 0, .int .i64 0]) (t := 59) ?hr ?_; (case hd => rfl); (case hg => rfl); (case hr => (go_simp; try rfl)); intro gb102 hg w18 hbox hb; have BK102 := Aside0.mk (hbox); have GW102 := Aside0.mk ((by rw [hg]; exact (ag_ (bz HB.out)) : w.heap.size ≤ gb102)); have GE102 := GW102; replace HB := Aside0.mk (ab_ (bz HB.out) hb); clear hb hbox hg; obtain ⟨hcz19_0, hcz19_1, hcz19_2, hcz19_3⟩ := cz4_ BK102.out; obtain ⟨hfz19_0, hfz19_1, hfz19_2, hfz19_3⟩ := fz4_ BK102.out))
    have n0_ : Aside0 (((((w18.setCell ⟨gb102, 0, none⟩ (.string ((aa_ l0 x7_1).f0))).setCell ⟨gb102, 1, none⟩ (.string ((aa_ l0 x7_1).f1.f0))).setCell ⟨gb102, 2, none⟩ (.int .i64 ((aa_ l0 x7_1).f1.f1))).setCell ⟨gb102, 3, none⟩ (.int .i64 ((aa_ l0 x7_1).f1.f2))).heap[gb102]? = some (.cells #[.string ((aa_ l0 x7_1).f0), .string ((aa_ l0 x7_1).f1.f0), .int .i64 ((aa_ l0 x7_1).f1.f1), .int .i64 ((aa_ l0 x7_1).f1.f2)] 59 (0, 0))) := ⟨by exact kj4_3 (kj4_2 (kj4_1 (kj4_0 (kz BK102.out))))⟩
    have n1_ : Aside0 (Below w.heap.size w ((((w18.setCell ⟨gb102, 0, none⟩ (.string ((aa_ l0 x7_1).f0))).setCell ⟨gb102, 1, none⟩ (.string ((aa_ l0 x7_1).f1.f0))).setCell ⟨gb102, 2, none⟩ (.int .i64 ((aa_ l0 x7_1).f1.f1))).setCell ⟨gb102, 3, none⟩ (.int .i64 ((aa_ l0 x7_1).f1.f2)))) := ⟨bq⟩
    (try clear BK102)
    (try clear HB)
    generalize ((((w18.setCell ⟨gb102, 0, none⟩ (.string ((aa_ l0 x7_1).f0))).setCell ⟨gb102, 1, none⟩ (.string ((aa_ l0 x7_1).f1.f0))).setCell ⟨gb102, 2, none⟩ (.int .i64 ((aa_ l0 x7_1).f1.f1))).setCell ⟨gb102, 3, none⟩ (.int .i64 ((aa_ l0 x7_1).f1.f2))) = w20 at n0_ n1_ ⊢
    have BK102 := n0_
    have HB := n1_
    clear n0_ n1_
    have n0_ := Aside0.mk (cc_ BK102.out)
    have n1_ := Aside0.mk (bD_ HB.out)
    clear BK102
    clear HB
    have BK102 := n0_
    have HB := n1_
    clear n0_ n1_
    refine start_ (n := 18) (S := fun w' => w'.cell? ⟨gb102, 0, none⟩ = some (.string ((aa_ l0 x7_1).f0)) ∧ w'.cell? ⟨gb102, 1, none⟩ = some (.string ((aa_ l0 x7_1).f1.f0)) ∧ w'.cell? ⟨gb102, 2, none⟩ = some (.int .i64 ((aa_ l0 x7_1).f1.f1)) ∧ w'.cell? ⟨gb102, 3, none⟩ = some (.int .i64 ((aa_ l0 x7_1).f1.f2))) (ds := []) #[f_,f_,f_,f_,f_,f_,f_,f_,f_,f_,f_,f_,f_,f_,f_,f_,f_,f_] (by kernel_rfl) rfl rfl ⟨(aO_ BK102.out 0).trans rfl, (aO_ BK102.out 1).trans rfl, (aO_ BK102.out 2).trans rfl, (aO_ BK102.out 3).trans rfl⟩ (fun hHeld => ?_); refine db_ an_.tab4 an_.bits4 (fun HT_ HW_ => ?_)
    generalize w20.drew = w21 at BK102 HB hHeld ⊢
    refine tk 0 12 #[t_,f_,f_,f_,f_,f_,f_,f_,f_,f_,f_,f_,f_,f_,f_,f_,f_,f_] HT_ HW_ hHeld ?_ (hv := by rintro w' ⟨s0, s1, s2, s3⟩; go_simp; with_reducible rfl)
    refine one_ (i := 1) (N := some 13) #[t_,t_,f_,f_,f_,f_,f_,f_,f_,f_,f_,f_,f_,f_,f_,f_,f_,f_] rfl rfl (cV_ HT_.out (by kernel_rfl)) (by decide) (fun K hK => ?_)
    (first | refine goes_ Tryd.func30 (by kernel_rfl) rfl #[.agg #[.string ((aa_ l0 x7_1).f0), .string ((aa_ l0 x7_1).f1.f0), .int .i64 ((aa_ l0 x7_1).f1.f1), .int .i64 ((aa_ l0 x7_1).f1.f2)]] (by rfl) rfl rfl (by first | rfl | (simp only [lma_, lmc_, lmn_]; first | done | rfl)) ?_ | refine RPW.cX_ Tryd.func30 (by kernel_rfl) rfl #[.agg #[.string ((aa_ l0 x7_1).f0), .string ((aa_ l0 x7_1).f1.f0), .int .i64 ((aa_ l0 x7_1).f1.f1), .int .i64 ((aa_ l0 x7_1).f1.f2)]] (by rfl) rfl rfl rfl (by first | rfl | (simp only [lma_, lmc_, lmn_]; first | done | rfl)) ?_ | refine RPW.cY_ Tryd.func30 (by kernel_rfl) rfl #[.agg #[.string ((aa_ l0 x7_1).f0), .string ((aa_ l0 x7_1).f1.f0), .int .i64 ((aa_ l0 x7_1).f1.f1), .int .i64 ((aa_ l0 x7_1).f1.f2)]] (by rfl) rfl rfl rfl (by first | rfl | (simp only [lma_, lmc_, lmn_]; first | done | rfl)) ?_)
    with_reducible refine (bR_.calls k1 ((aa_ l0 x7_1).f0) ((aa_ l0 x7_1).f1.f0) ((aa_ l0 x7_1).f1.f1) ((aa_ l0 x7_1).f1.f2) true _ A5.out).mono ?_
    rintro e w22 ⟨rfl, hb⟩
    refine ⟨_, rfl, ?_⟩
    have n0_ := Aside0.mk (aS_ (kz BK102.out) hb)
    have n1_ := Aside0.mk (ab_ (bq) hb)
    clear BK102
    clear HB
    have BK102 := n0_
    have HB := n1_
    clear n0_ n1_
    (try clear hb)
    refine hK.out _ _ ⟨(aO_ BK102.out 0).trans rfl, (aO_ BK102.out 1).trans rfl, (aO_ BK102.out 2).trans rfl, (aO_ BK102.out 3).trans rfl⟩ (fun hHeld => ?_)
    clear hK K
    refine norm_ (a' := ?_) ?_ ?_
    rotate_left
    ·show Act.put _ (some 13) _ = _
     simp only [Act.put, lsa_, ls0_, ls1_, i64_w, i32_w]
     rfl
    refine pu 2 14 #[t_,t_,t_,f_,f_,f_,f_,f_,f_,f_,f_,f_,f_,f_,f_,f_,f_,f_] HT_ ?_
    refine pu 3 15 #[t_,t_,t_,t_,f_,f_,f_,f_,f_,f_,f_,f_,f_,f_,f_,f_,f_,f_] HT_ ?_
    refine pu 4 16 #[t_,t_,t_,t_,t_,f_,f_,f_,f_,f_,f_,f_,f_,f_,f_,f_,f_,f_] HT_ ?_
    refine pu 5 17 #[t_,t_,t_,t_,t_,t_,f_,f_,f_,f_,f_,f_,f_,f_,f_,f_,f_,f_] HT_ ?_
    refine pu 6 18 #[t_,t_,t_,t_,t_,t_,t_,f_,f_,f_,f_,f_,f_,f_,f_,f_,f_,f_] HT_ ?_
    refine pn 7 19 #[t_,t_,t_,t_,t_,t_,t_,t_,f_,f_,f_,f_,f_,f_,f_,f_,f_,f_] HT_ ?_
    refine pn 8 20 #[t_,t_,t_,t_,t_,t_,t_,t_,t_,f_,f_,f_,f_,f_,f_,f_,f_,f_] HT_ ?_
    refine pn 9 21 #[t_,t_,t_,t_,t_,t_,t_,t_,t_,t_,f_,f_,f_,f_,f_,f_,f_,f_] HT_ ?_
    refine pn 10 22 #[t_,t_,t_,t_,t_,t_,t_,t_,t_,t_,t_,f_,f_,f_,f_,f_,f_,f_] HT_ ?_
    refine pn 11 23 #[t_,t_,t_,t_,t_,t_,t_,t_,t_,t_,t_,t_,f_,f_,f_,f_,f_,f_] HT_ ?_
    refine pn 12 24 #[t_,t_,t_,t_,t_,t_,t_,t_,t_,t_,t_,t_,t_,f_,f_,f_,f_,f_] HT_ ?_
    refine pn 13 25 #[t_,t_,t_,t_,t_,t_,t_,t_,t_,t_,t_,t_,t_,t_,f_,f_,f_,f_] HT_ ?_
    refine pn 14 26 #[t_,t_,t_,t_,t_,t_,t_,t_,t_,t_,t_,t_,t_,t_,t_,f_,f_,f_] HT_ ?_
    refine pn 15 27 #[t_,t_,t_,t_,t_,t_,t_,t_,t_,t_,t_,t_,t_,t_,t_,t_,f_,f_] HT_ ?_
    refine pu 16 28 #[t_,t_,t_,t_,t_,t_,t_,t_,t_,t_,t_,t_,t_,t_,t_,t_,t_,f_] HT_ ?_
    refine pu 17 29 #[t_,t_,t_,t_,t_,t_,t_,t_,t_,t_,t_,t_,t_,t_,t_,t_,t_,t_] HT_ ?_
    refine done_ (dH_ HT_.out (by kernel_rfl)) ?_
    try go_wp2
    go_roundg k1
    case measure => have := HK1.out; omega
    case rel => exact ⟨(wrap64 (x7_1 + 1)), (by first | rfl | (simp; done) | (simp [*]; done)), H', ⟨by have := HK1.out; omega⟩, ⟨bq⟩⟩
   rw [if_pos c7] at H
   have c7b0 : decide (0 < x7_1) = true := decide_eq_true c7
   clear c7
   obtain ⟨ji8, hji8⟩ : ∃ j_ : Int, (wrap64 (x7_1 - 1)) = j_ := ⟨_, rfl⟩
   replace H : (if 0 ≤ (ji8) then (if (ji8) < (l0.length : Int) then (if ((Op.bytesLess (((aa_ l0 (ji8)).f0).toList) (((aa_ l0 x7_1).f0).toList)) = true) then (an_.l0 k1 l0 l0 (l0.length : Int) (wrap64 (x7_1 + 1))) else (some false)) else (none)) else (none)) = some r := by first | (rw [hji8] at H; exact H) | (simp only [hji8] at H ⊢; exact H)
   (try rw [hji8] at A5)
   have hji8w : (IntKind.i64.wrap (x7_1 - 1)) = ji8 := (i64_w _).trans hji8
   by_cases c9 : 0 ≤ (ji8)
   rotate_left
   ·rw [if_neg c9] at H
    exact absurd H (by simp)
   rw [if_pos c9] at H
   have c9b0 : decide (0 ≤ (ji8)) = true := decide_eq_true c9
   clear c9
   by_cases c10 : (ji8) < (l0.length : Int)
   rotate_left
   ·rw [if_neg c10] at H
    exact absurd H (by simp)
   rw [if_pos c10] at H
   have c10b0 : decide ((ji8) < (l0.length : Int)) = true := decide_eq_true c10
   clear c10
   have HC11 := Aside0.mk H
   clear H
   have p101 : 0 ≤ (x7_1 : Int) := of_decide_eq_true (by assumption)
   have q101 : x7_1 < (l0.length : Int) := of_decide_eq_true (by assumption)
   obtain ⟨ad101, e101, hx101_0, hx101_1, hx101_2, hx101_3⟩ := cH_ HR0.out x7_1 p101 q101
   cases e101
   replace hx101_0 := bu_ HB.out hx101_0
   replace hx101_1 := bu_ HB.out hx101_1
   replace hx101_2 := bu_ HB.out hx101_2
   replace hx101_3 := bu_ HB.out hx101_3
   replace p101 := eq_true p101
   replace q101 := eq_true q101
   try go_wp2_with (first | ((with_reducible refine aL_ (N := 4) rfl ?_); refine bz_ ?hg (N := 4) ?hd (cs := #[.string (⟨#[]⟩ : ByteArray), .string (⟨#[]⟩ : ByteArray), .int .i64 0, .int .i64 0]) (t := 59) ?hr ?_; (case hd => rfl); (case hg => rfl); (case hr => (go_simp; try rfl)); intro gb102 hg w12 hbox hb; have BK102 := Aside0.mk (hbox); have GW102 := Aside0.mk ((by rw [hg]; exact (ag_ (bz HB.out)) : w.heap.size ≤ gb102)); have GE102 := GW102; replace HB := Aside0.mk (ab_ (bz HB.out) hb); clear hb hbox hg; obtain ⟨hcz13_0, hcz13_1, hcz13_2, hcz13_3⟩ := cz4_ BK102.out; obtain ⟨hfz13_0, hfz13_1, hfz13_2, hfz13_3⟩ := fz4_ BK102.out))
   have n0_ : Aside0 (((((w12.setCell ⟨gb102, 0, none⟩ (.string ((aa_ l0 x7_1).f0))).setCell ⟨gb102, 1, none⟩ (.string ((aa_ l0 x7_1).f1.f0))).setCell ⟨gb102, 2, none⟩ (.int .i64 ((aa_ l0 x7_1).f1.f1))).setCell ⟨gb102, 3, none⟩ (.int .i64 ((aa_ l0 x7_1).f1.f2))).heap[gb102]? = some (.cells #[.string ((aa_ l0 x7_1).f0), .string ((aa_ l0 x7_1).f1.f0), .int .i64 ((aa_ l0 x7_1).f1.f1), .int .i64 ((aa_ l0 x7_1).f1.f2)] 59 (0, 0))) := ⟨by exact kj4_3 (kj4_2 (kj4_1 (kj4_0 (kz BK102.out))))⟩
   have n1_ : Aside0 (Below w.heap.size w ((((w12.setCell ⟨gb102, 0, none⟩ (.string ((aa_ l0 x7_1).f0))).setCell ⟨gb102, 1, none⟩ (.string ((aa_ l0 x7_1).f1.f0))).setCell ⟨gb102, 2, none⟩ (.int .i64 ((aa_ l0 x7_1).f1.f1))).setCell ⟨gb102, 3, none⟩ (.int .i64 ((aa_ l0 x7_1).f1.f2)))) := ⟨bq⟩
   (try clear BK102)
   (try clear HB)
   generalize ((((w12.setCell ⟨gb102, 0, none⟩ (.string ((aa_ l0 x7_1).f0))).setCell ⟨gb102, 1, none⟩ (.string ((aa_ l0 x7_1).f1.f0))).setCell ⟨gb102, 2, none⟩ (.int .i64 ((aa_ l0 x7_1).f1.f1))).setCell ⟨gb102, 3, none⟩ (.int .i64 ((aa_ l0 x7_1).f1.f2))) = w14 at n0_ n1_ ⊢
   have BK102 := n0_
   have HB := n1_
   clear n0_ n1_
   have n0_ := Aside0.mk (cc_ BK102.out)
   have n1_ := Aside0.mk (bD_ HB.out)
   clear BK102
   clear HB
   have BK102 := n0_
   have HB := n1_
   clear n0_ n1_
   have p104 : 0 ≤ ((ji8) : Int) := of_decide_eq_true (by assumption)
   have q104 : (ji8) < (l0.length : Int) := of_decide_eq_true (by assumption)
   obtain ⟨ad104, e104, hx104_0, hx104_1, hx104_2, hx104_3⟩ := cH_ HR0.out (ji8) p104 q104
   have hw104_3 := hx104_3
   have hw104_2 := hx104_2
   have hw104_1 := hx104_1
   have hw104_0 := hx104_0
   obtain rfl : ad101 = ad104 := (by injection e104)
   replace hx104_0 := bu_ HB.out hx104_0
   replace hx104_1 := bu_ HB.out hx104_1
   replace hx104_2 := bu_ HB.out hx104_2
   replace hx104_3 := bu_ HB.out hx104_3
   replace p104 := eq_true p104
   replace q104 := eq_true q104
   refine start_ (n := 18) (S := fun w' => w'.cell? ⟨gb102, 0, none⟩ = some (.string ((aa_ l0 x7_1).f0)) ∧ w'.cell? ⟨gb102, 1, none⟩ = some (.string ((aa_ l0 x7_1).f1.f0)) ∧ w'.cell? ⟨gb102, 2, none⟩ = some (.int .i64 ((aa_ l0 x7_1).f1.f1)) ∧ w'.cell? ⟨gb102, 3, none⟩ = some (.int .i64 ((aa_ l0 x7_1).f1.f2)) ∧ w'.cell? (ad101.add (((ji8)).toNat * 4)) = some (.string ((aa_ l0 (ji8)).f0)) ∧ w'.cell? ⟨(ad101.add (((ji8)).toNat * 4)).block, (ad101.add (((ji8)).toNat * 4)).off + 1, none⟩ = some (.string ((aa_ l0 (ji8)).f1.f0)) ∧ w'.cell? ⟨(ad101.add (((ji8)).toNat * 4)).block, (ad101.add (((ji8)).toNat * 4)).off + 2, none⟩ = some (.int .i64 ((aa_ l0 (ji8)).f1.f1)) ∧ w'.cell? ⟨(ad101.add (((ji8)).toNat * 4)).block, (ad101.add (((ji8)).toNat * 4)).off + 3, none⟩ = some (.int .i64 ((aa_ l0 (ji8)).f1.f2))) (ds := []) #[f_,f_,f_,f_,f_,f_,f_,f_,f_,f_,f_,f_,f_,f_,f_,f_,f_,f_] (by kernel_rfl) rfl rfl ⟨(aO_ BK102.out 0).trans rfl, (aO_ BK102.out 1).trans rfl, (aO_ BK102.out 2).trans rfl, (aO_ BK102.out 3).trans rfl, (bv_ HB.out hw104_0), (bv_ HB.out hw104_1), (bv_ HB.out hw104_2), (bv_ HB.out hw104_3)⟩ (fun hHeld => ?_); refine db_ an_.tab4 an_.bits4 (fun HT_ HW_ => ?_)
   generalize w14.drew = w15 at BK102 HB hx104_0 hx104_1 hx104_2 hx104_3 hHeld ⊢
   refine tk 0 12 #[t_,f_,f_,f_,f_,f_,f_,f_,f_,f_,f_,f_,f_,f_,f_,f_,f_,f_] HT_ HW_ hHeld ?_ (hv := by rintro w' ⟨s0, s1, s2, s3, s4, s5, s6, s7⟩; go_simp; with_reducible rfl)
   refine one_ (i := 1) (N := some 13) #[t_,t_,f_,f_,f_,f_,f_,f_,f_,f_,f_,f_,f_,f_,f_,f_,f_,f_] rfl rfl (cV_ HT_.out (by kernel_rfl)) (by decide) (fun K hK => ?_)
   (first | refine goes_ Tryd.func30 (by kernel_rfl) rfl #[.agg #[.string ((aa_ l0 x7_1).f0), .string ((aa_ l0 x7_1).f1.f0), .int .i64 ((aa_ l0 x7_1).f1.f1), .int .i64 ((aa_ l0 x7_1).f1.f2)]] (by rfl) rfl rfl (by first | rfl | (simp only [lma_, lmc_, lmn_]; first | done | rfl)) ?_ | refine RPW.cX_ Tryd.func30 (by kernel_rfl) rfl #[.agg #[.string ((aa_ l0 x7_1).f0), .string ((aa_ l0 x7_1).f1.f0), .int .i64 ((aa_ l0 x7_1).f1.f1), .int .i64 ((aa_ l0 x7_1).f1.f2)]] (by rfl) rfl rfl rfl (by first | rfl | (simp only [lma_, lmc_, lmn_]; first | done | rfl)) ?_ | refine RPW.cY_ Tryd.func30 (by kernel_rfl) rfl #[.agg #[.string ((aa_ l0 x7_1).f0), .string ((aa_ l0 x7_1).f1.f0), .int .i64 ((aa_ l0 x7_1).f1.f1), .int .i64 ((aa_ l0 x7_1).f1.f2)]] (by rfl) rfl rfl rfl (by first | rfl | (simp only [lma_, lmc_, lmn_]; first | done | rfl)) ?_)
   with_reducible refine (bR_.calls k1 ((aa_ l0 x7_1).f0) ((aa_ l0 x7_1).f1.f0) ((aa_ l0 x7_1).f1.f1) ((aa_ l0 x7_1).f1.f2) true _ A5.out).mono ?_
   rintro e w16 ⟨rfl, hb⟩
   refine ⟨_, rfl, ?_⟩
   have n0_ := Aside0.mk (aS_ (kz BK102.out) hb)
   have n1_ := Aside0.mk (ab_ (bq) hb)
   clear BK102
   clear HB
   have BK102 := n0_
   have HB := n1_
   clear n0_ n1_
   (try clear hb)
   refine hK.out _ _ ⟨(aO_ BK102.out 0).trans rfl, (aO_ BK102.out 1).trans rfl, (aO_ BK102.out 2).trans rfl, (aO_ BK102.out 3).trans rfl, (bv_ HB.out hw104_0), (bv_ HB.out hw104_1), (bv_ HB.out hw104_2), (bv_ HB.out hw104_3)⟩ (fun hHeld => ?_)
   clear hK K
   refine norm_ (a' := ?_) ?_ ?_
   rotate_left
   ·show Act.put _ (some 13) _ = _
    simp only [Act.put, lsa_, ls0_, ls1_, i64_w, i32_w]
    rfl
   refine pu 2 14 #[t_,t_,t_,f_,f_,f_,f_,f_,f_,f_,f_,f_,f_,f_,f_,f_,f_,f_] HT_ ?_
   refine pu 3 15 #[t_,t_,t_,t_,f_,f_,f_,f_,f_,f_,f_,f_,f_,f_,f_,f_,f_,f_] HT_ ?_
   refine pu 4 16 #[t_,t_,t_,t_,t_,f_,f_,f_,f_,f_,f_,f_,f_,f_,f_,f_,f_,f_] HT_ ?_
   refine pu 5 17 #[t_,t_,t_,t_,t_,t_,f_,f_,f_,f_,f_,f_,f_,f_,f_,f_,f_,f_] HT_ ?_
   refine pu 6 18 #[t_,t_,t_,t_,t_,t_,t_,f_,f_,f_,f_,f_,f_,f_,f_,f_,f_,f_] HT_ ?_
   refine pu 7 19 #[t_,t_,t_,t_,t_,t_,t_,t_,f_,f_,f_,f_,f_,f_,f_,f_,f_,f_] HT_ ?_
   refine pu 8 20 #[t_,t_,t_,t_,t_,t_,t_,t_,t_,f_,f_,f_,f_,f_,f_,f_,f_,f_] HT_ ?_
   refine pu 9 21 #[t_,t_,t_,t_,t_,t_,t_,t_,t_,t_,f_,f_,f_,f_,f_,f_,f_,f_] HT_ ?_
   refine pu 10 22 #[t_,t_,t_,t_,t_,t_,t_,t_,t_,t_,t_,f_,f_,f_,f_,f_,f_,f_] HT_ ?_
   refine pu 11 23 #[t_,t_,t_,t_,t_,t_,t_,t_,t_,t_,t_,t_,f_,f_,f_,f_,f_,f_] HT_ ?_
   refine pu 13 25 #[t_,t_,t_,t_,t_,t_,t_,t_,t_,t_,t_,t_,f_,t_,f_,f_,f_,f_] HT_ ?_
   refine tk 12 24 #[t_,t_,t_,t_,t_,t_,t_,t_,t_,t_,t_,t_,t_,t_,f_,f_,f_,f_] HT_ HW_ hHeld ?_ (hv := by rintro w' ⟨s0, s1, s2, s3, s4, s5, s6, s7⟩; go_simp; with_reducible rfl)
   refine tk 14 26 #[t_,t_,t_,t_,t_,t_,t_,t_,t_,t_,t_,t_,t_,t_,t_,f_,f_,f_] HT_ HW_ hHeld ?_ (hv := by rintro w' ⟨s0, s1, s2, s3, s4, s5, s6, s7⟩; go_simp; with_reducible rfl)
   refine pu 15 27 #[t_,t_,t_,t_,t_,t_,t_,t_,t_,t_,t_,t_,t_,t_,t_,t_,f_,f_] HT_ ?_
   refine pu 16 28 #[t_,t_,t_,t_,t_,t_,t_,t_,t_,t_,t_,t_,t_,t_,t_,t_,t_,f_] HT_ ?_
   refine pu 17 29 #[t_,t_,t_,t_,t_,t_,t_,t_,t_,t_,t_,t_,t_,t_,t_,t_,t_,t_] HT_ ?_
   refine done_ (dH_ HT_.out (by kernel_rfl)) ?_
   go_upto_if 29 with (fail)
   have H := HC11.out
   clear HC11
   by_cases c17 : ((Op.bytesLess (((aa_ l0 (ji8)).f0).toList) (((aa_ l0 x7_1).f0).toList)) = true)
   rotate_left
   ·rw [if_neg c17] at H
    have c17b0 : (Op.bytesLess (((aa_ l0 (ji8)).f0).toList) (((aa_ l0 x7_1).f0).toList)) = false := by simpa using c17
    clear c17
    (first | rw [c17b0] | (simp only [i64_w, i32_w]; rw [c17b0]) | (simp only [c17b1, Bool.not_true, Bool.not_false]) | (simp only [c17b0, Bool.not_true, Bool.not_false]) | skip)
    obtain rfl := Option.some.inj H
    go_wp2
    go_ret
    exact ⟨by first | rfl | (simp [ap_, ao_] <;> rfl) | (simp only [← hji8]; first | rfl | (simp [ap_, ao_] <;> rfl)) | (simp [*, ap_, ao_] <;> rfl), bq⟩
   rw [if_pos c17] at H
   have c17b0 : (Op.bytesLess (((aa_ l0 (ji8)).f0).toList) (((aa_ l0 x7_1).f0).toList)) = true := c17
   clear c17
   (first | rw [c17b0] | (simp only [i64_w, i32_w]; rw [c17b0]) | (simp only [c17b1, Bool.not_true, Bool.not_false]) | (simp only [c17b0, Bool.not_true, Bool.not_false]) | skip)
   have H' := Aside0.mk H
   clear H
   go_wp2
   go_roundg k1
   case measure => have := HK1.out; omega
   case rel => exact ⟨(wrap64 (x7_1 + 1)), (by first | rfl | (simp; done) | (simp [*]; done)), H', ⟨by have := HK1.out; omega⟩, ⟨bq⟩⟩
end Go.Proofs.YtiheginanghhjaaDoor.Q
namespace Go.Proofs
open Go.Shelf
def Tryd.lays106_ren : Go.Shelf.Ren := ⟨fun | 106 => 54 | 213 => 73 | 265 => 79 | n => n, fun | 9 => 9 | 3 => 3 | n => n, fun | n => n⟩
theorem Tryd.lays106 : Go.Proofs.Lays.n106 Tryd.prog Tryd.lays106_ren := {
 mixed := by kernel_rfl
 f106 := Tryd.func54.trans (congrArg some (by kernel_rfl))
 f213 := Tryd.func73.trans (congrArg some (by kernel_rfl))
 f265 := Tryd.func79.trans (congrArg some (by kernel_rfl))
 t3 := Tryd.underlying3
 a3 := Tryd.isAgg3
 z3 := Tryd.sizeOf3
 v3 := Tryd.zeroValue3
 t9 := Tryd.underlying9
 a9 := Tryd.isAgg9
 z9 := Tryd.sizeOf9
 v9 := Tryd.zeroValue9 }
open Go.RowKit in
theorem Tryd.strings_Compare (a b : ByteArray) (w : World) :
  Calls Tryd.prog 54 #[.string a, .string b] w fun e w' => e = .returned (.int .i64 (Lib.compareBytes a.data.toList b.data.toList)) ∧ w' = w := Any.strings_Compare Tryd.lays106 a b w
def Tryd.laysM173_ren : Go.Shelf.Ren := ⟨fun | 173 => 61 | 246 => 76 | 283 => 82 | 284 => 83 | 285 => 84 | 286 => 85 | 129 => 89 | 317 => 88 | 318 => 90 | 319 => 91 | 320 => 92 | 337 => 97 | 338 => 98 | n => n, fun | 2 => 2 | 3 => 3 | 9 => 9 | 4 => 4 | 171 => 115 | 0 => 0 | 53 => 80 | 37 => 22 | 5 => 5 | 173 => 118 | 212 => 124 | 51 => 125 | 20 => 20 | 213 => 126 | 46 => 105 | 232 => 132 | 233 => 133 | n => n, fun | 17 => 1 | 18 => 2 | 19 => 3 | n => n⟩
theorem Tryd.laysM173 : Go.Proofs.LaysM.n173 Tryd.prog Tryd.laysM173_ren := {
 mixed := by kernel_rfl
 f129 := Tryd.func89.trans (congrArg some (by kernel_rfl))
 f173 := Tryd.func61.trans (congrArg some (by kernel_rfl))
 f246 := Tryd.func76.trans (congrArg some (by kernel_rfl))
 f283 := Tryd.func82.trans (congrArg some (by kernel_rfl))
 f284 := Tryd.func83.trans (congrArg some (by kernel_rfl))
 f285 := Tryd.func84.trans (congrArg some (by kernel_rfl))
 f286 := Tryd.func85.trans (congrArg some (by kernel_rfl))
 f317 := Tryd.func88.trans (congrArg some (by kernel_rfl))
 f318 := Tryd.func90.trans (congrArg some (by kernel_rfl))
 f319 := Tryd.func91.trans (congrArg some (by kernel_rfl))
 f320 := Tryd.func92.trans (congrArg some (by kernel_rfl))
 f337 := Tryd.func97.trans (congrArg some (by kernel_rfl))
 f338 := Tryd.func98.trans (congrArg some (by kernel_rfl))
 t0 := Tryd.underlying0
 a0 := Tryd.isAgg0
 z0 := Tryd.sizeOf0
 v0 := Tryd.zeroValue0
 t2 := Tryd.underlying2
 a2 := Tryd.isAgg2
 z2 := Tryd.sizeOf2
 v2 := Tryd.zeroValue2
 t3 := Tryd.underlying3
 a3 := Tryd.isAgg3
 z3 := Tryd.sizeOf3
 v3 := Tryd.zeroValue3
 t4 := Tryd.underlying4
 a4 := Tryd.isAgg4
 z4 := Tryd.sizeOf4
 v4 := Tryd.zeroValue4
 t5 := Tryd.underlying5
 a5 := Tryd.isAgg5
 z5 := Tryd.sizeOf5
 v5 := Tryd.zeroValue5
 t9 := Tryd.underlying9
 a9 := Tryd.isAgg9
 z9 := Tryd.sizeOf9
 v9 := Tryd.zeroValue9
 t20 := Tryd.underlying20
 a20 := Tryd.isAgg20
 z20 := Tryd.sizeOf20
 v20 := Tryd.zeroValue20
 t37 := Tryd.underlying22
 a37 := Tryd.isAgg22
 z37 := Tryd.sizeOf22
 v37 := Tryd.zeroValue22
 t46 := Tryd.underlying105
 a46 := Tryd.isAgg105
 z46 := Tryd.sizeOf105
 v46 := Tryd.zeroValue105
 t51 := Tryd.underlying125
 a51 := Tryd.isAgg125
 z51 := Tryd.sizeOf125
 v51 := Tryd.zeroValue125
 t53 := Tryd.underlying80
 a53 := Tryd.isAgg80
 z53 := Tryd.sizeOf80
 v53 := Tryd.zeroValue80
 t171 := Tryd.underlying115
 a171 := Tryd.isAgg115
 z171 := Tryd.sizeOf115
 v171 := Tryd.zeroValue115
 t173 := Tryd.underlying118
 a173 := Tryd.isAgg118
 z173 := Tryd.sizeOf118
 v173 := Tryd.zeroValue118
 t212 := Tryd.underlying124
 a212 := Tryd.isAgg124
 z212 := Tryd.sizeOf124
 v212 := Tryd.zeroValue124
 t213 := Tryd.underlying126
 a213 := Tryd.isAgg126
 z213 := Tryd.sizeOf126
 t232 := Tryd.underlying132
 a232 := Tryd.isAgg132
 z232 := Tryd.sizeOf132
 v232 := Tryd.zeroValue132
 t233 := Tryd.underlying133
 a233 := Tryd.isAgg133
 z233 := Tryd.sizeOf133
 v233 := Tryd.zeroValue133
 g17 := by kernel_rfl
 g18 := by kernel_rfl
 g19 := by kernel_rfl
 i0 := by kernel_rfl
 i2 := by kernel_rfl
 i3 := by kernel_rfl
 i4 := by kernel_rfl
 i5 := by kernel_rfl
 i9 := by kernel_rfl
 i20 := by kernel_rfl
 i37 := by kernel_rfl
 i46 := by kernel_rfl
 i51 := by kernel_rfl
 i53 := by kernel_rfl
 i171 := by kernel_rfl
 i173 := by kernel_rfl
 i212 := by kernel_rfl
 i232 := by kernel_rfl
 i233 := by kernel_rfl
 m17 := by kernel_rfl
 m18 := by kernel_rfl
 m19 := by kernel_rfl }
open Go.RowKit Go.Sort Go.Lib in
theorem Tryd.strconv_FormatInt_10 (n : Int) (h0 : -9223372036854775808 ≤ n) (h1 : n ≤ 9223372036854775807) (w : World) (htab : Lib.TabIs Tryd.prog w "internal/strconv.uint64pow10" .u64 Lib.pow10Tab) :
  Calls Tryd.prog 61 #[.int .i64 n, .int .i64 10] w fun e w' => e = .returned (.string ⟨(Lib.itoa n).toArray⟩) ∧ ∃ k os, w' = grow (w.drewN k) os := Any.strconv_FormatInt_10 Tryd.laysM173 n h0 h1 w htab
end Go.Proofs
namespace Go.Proofs.YtiheginanghhjaaDoor.Q
open Go.RowKit Go.Proofs.YtiheginanghhjaaDoorW.PrintWords Go.Proofs.YtiheginanghhjaaDoorW.PrintLast Go.Proofs.YtiheginanghhjaaDoorW.PrintMore
attribute [local go_sem] aJ_ aI_ aW_ aX_ az_ aA_ aG_ aH_
def strings_Compare.f (a0 : ByteArray) (a1 : ByteArray) : Option (Int) := some (Go.Lib.compareBytes a0.data.toList a1.data.toList)
theorem strings_Compare.calls (a0 : ByteArray) (a1 : ByteArray) (r : Int) (w : World) (h : strings_Compare.f a0 a1 = some r) :
  Calls Tryd.prog 54 #[.string a0, .string a1] w fun e w' => e = .returned (.int .i64 r) ∧ au_ w w' := by
 obtain rfl := Option.some.inj h
 refine (Go.Proofs.Tryd.strings_Compare a0 a1 w).mono ?_
 rintro e w' ⟨rfl, rfl⟩
 exact ⟨rfl, au_.refl _⟩
def cb_.f (a0_0 : ByteArray) (a0_1 : ByteArray) (a0_2 : Int) (a0_3 : Int) (a1 : ByteArray) : Option (Int) := (strings_Compare.f a0_0 a1).bind fun t102 => (some t102)
set_option maxHeartbeats 8000000 in
set_option maxRecDepth 100000 in
theorem cb_.calls (a0_0 : ByteArray) (a0_1 : ByteArray) (a0_2 : Int) (a0_3 : Int) (a1 : ByteArray) (r : Int) (w : World) (h : cb_.f a0_0 a0_1 a0_2 a0_3 a1 = some r) :
  Calls Tryd.prog 53 #[.agg #[.string a0_0, .string a0_1, .int .i64 a0_2, .int .i64 a0_3], .string a1] w fun e w' => e = .returned (.int .i64 r) ∧ Below w.heap.size w w' := by
 have hu59 := Tryd.underlying59
 have HB := Aside0.mk (Below.refl w.heap.size w)
 have H : ((strings_Compare.f a0_0 a1).bind fun t102 => (some t102)) = some r := h
 clear h
 replace H := Option.bind_eq_some_iff.mp H
 obtain ⟨t102, A30, H⟩ := H
 (try dsimp only at H)
 have A3 := Aside0.mk A30
 clear A30
 obtain rfl := Option.some.inj H
 go_enter Tryd.func53, Tryd.ntmps53
 go_wp2_with (first | ((with_reducible refine aL_ (N := 2) rfl ?_); refine bz_ ?hg (N := 2) ?hd (cs := #[.string a0_0, .string a0_1, .int .i64 a0_2, .int .i64 a0_3]) (t := 59) ?hr ?_; (case hd => rfl); (case hg => rfl); (case hr => (go_simp; try rfl)); intro gb101 hg w4 hbox hb; have BK101 := Aside0.mk (hbox); have GW101 := Aside0.mk ((by rw [hg]; exact (ag_ (bz HB.out)) : w.heap.size ≤ gb101)); have GE101 := GW101; replace HB := Aside0.mk (ab_ (bz HB.out) hb); clear hb hbox hg; obtain ⟨hcz5_0, hcz5_1, hcz5_2, hcz5_3⟩ := cz4_ BK101.out; obtain ⟨hfz5_0, hfz5_1, hfz5_2, hfz5_3⟩ := fz4_ BK101.out) | ((with_reducible refine as_ (f := 54) rfl ?_); refine bw_ (some 8) rfl rfl Tryd.func54 (by kernel_rfl) rfl #[.string a0_0, .string a1] rfl (by first | rfl | (simp only [lma_, lmc_, lmn_]; first | done | rfl)) ?_; (with_reducible refine (strings_Compare.calls a0_0 a1 t102 _ A3.out).mono ?_); rintro e w' ⟨rfl, ⟨nd, rfl⟩⟩; refine ⟨_, rfl, ?_⟩))
 go_ret
 exact ⟨by first | rfl | (simp [*, ap_, ao_] <;> rfl), bq⟩
def bj_.l0 : Nat → List (S59) → ByteArray → Int → Int → Int → Option (Int × Bool)
 | 0, _, _, _, _, _ => none
 | k + 1, x0, x1, x8, x9, x10 => if x9 < x10 then (if 0 ≤ (wrap64 ((IntKind.u64.wrap (wrap64 (x9 + x10))) / 2)) then (if (wrap64 ((IntKind.u64.wrap (wrap64 (x9 + x10))) / 2)) < (x0.length : Int) then ((cb_.f ((aa_ x0 (wrap64 ((IntKind.u64.wrap (wrap64 (x9 + x10))) / 2))).f0) ((aa_ x0 (wrap64 ((IntKind.u64.wrap (wrap64 (x9 + x10))) / 2))).f1.f0) ((aa_ x0 (wrap64 ((IntKind.u64.wrap (wrap64 (x9 + x10))) / 2))).f1.f1) ((aa_ x0 (wrap64 ((IntKind.u64.wrap (wrap64 (x9 + x10))) / 2))).f1.f2) x1).bind fun t102 => (if t102 < 0 then (bj_.l0 k x0 x1 x8 (wrap64 ((wrap64 ((IntKind.u64.wrap (wrap64 (x9 + x10))) / 2)) + 1)) x10) else (bj_.l0 k x0 x1 x8 x9 (wrap64 ((IntKind.u64.wrap (wrap64 (x9 + x10))) / 2))))) else (none)) else (none)) else (if x9 < x8 then (if 0 ≤ x9 then (if x9 < (x0.length : Int) then ((cb_.f ((aa_ x0 x9).f0) ((aa_ x0 x9).f1.f0) ((aa_ x0 x9).f1.f1) ((aa_ x0 x9).f1.f2) x1).bind fun t104 => (some (x9, (t104 == 0)))) else (none)) else (none)) else (some (x9, false)))
def bj_.f (k : Nat) (l0 : List (S59)) (a1 : ByteArray)  : Option (Int × Bool) := bj_.l0 k l0 a1 (l0.length : Int) 0 (l0.length : Int)
set_option maxHeartbeats 8000000 in
set_option maxRecDepth 100000 in
theorem bj_.calls (k : Nat) (A0 : Option Addr) (c0 : Nat) (l0 : List (S59)) (a1 : ByteArray)  (r1 : Int) (r2 : Bool) (w : World) (hr0 : Kd.C k59 w A0 l0.length l0) (hc0 : l0.length ≤ c0) (h : bj_.f k l0 a1 = some (r1, r2)) :
  Calls Tryd.prog 52 #[.slice A0 l0.length c0, .string a1, .func (.func 53) #[] #[]] w fun e w' => e = .returned (.tuple #[.int .i64 r1, .bool r2]) ∧ Below w.heap.size w w' := by
 have hu59 := Tryd.underlying59
 have HR0 := Aside0.mk hr0
 have HC0 := Aside0.mk hc0
 clear hr0 hc0
 have HB := Aside0.mk (Below.refl w.heap.size w)
 have H : (bj_.l0 k l0 a1 (l0.length : Int) 0 (l0.length : Int)) = some (r1, r2) := h
 clear h
 have H' := Aside0.mk H
 clear H
 go_enter Tryd.func52, Tryd.ntmps52
 go_wp2
 (try simp only [Act.put, lsa_, ls0_, ls1_])
 go_loopg [9, 10] k (fun kq v9 v10 w' => ∃ (x9_1 : Int) (x10_1 : Int), v9 = .int .i64 x9_1 ∧ v10 = .int .i64 x10_1 ∧ Aside0 (bj_.l0 kq l0 a1 (l0.length : Int) x9_1 x10_1 = some (r1, r2)) ∧ Aside0 (kq ≤ k) ∧ Aside0 (Below w.heap.size w w'))
 case atStart => exact ⟨(0), ((l0.length : Int)), (by first | rfl | (simp; done) | (simp [*]; done)), (by first | rfl | (simp; done) | (simp [*]; done)), H', ⟨Nat.le_refl _⟩, ⟨bz HB.out⟩⟩
 case round =>
  clear H'
  obtain ⟨x9_1, x10_1, rfl, rfl, HA, HK1, HB⟩ := hrel
  cases gk with
  | zero => exact absurd HA.out (by simp [bj_.l0])
  | succ k1 =>
   have H := HA.out
   clear HA
   simp only [bj_.l0] at H
   by_cases c4 : x9_1 < x10_1
   rotate_left
   ·rw [if_neg c4] at H
    have c4b0 : decide (x9_1 < x10_1) = false := decide_eq_false c4
    clear c4
    by_cases c12 : x9_1 < (l0.length : Int)
    rotate_left
    ·rw [if_neg c12] at H
     have c12b0 : decide (x9_1 < (l0.length : Int)) = false := decide_eq_false c12
     clear c12
     simp only [Option.some.injEq, Prod.mk.injEq] at H
     obtain ⟨rfl, rfl⟩ := H
     go_wp2
     go_ret2
     exact ⟨by first | rfl | (simp [*, ap_, ao_] <;> rfl), bz HB.out⟩
    rw [if_pos c12] at H
    have c12b0 : decide (x9_1 < (l0.length : Int)) = true := decide_eq_true c12
    clear c12
    by_cases c13 : 0 ≤ x9_1
    rotate_left
    ·rw [if_neg c13] at H
     exact absurd H (by simp)
    rw [if_pos c13] at H
    have c13b0 : decide (0 ≤ x9_1) = true := decide_eq_true c13
    clear c13
    by_cases c14 : x9_1 < (l0.length : Int)
    rotate_left
    ·rw [if_neg c14] at H
     exact absurd H (by simp)
    rw [if_pos c14] at H
    have c14b0 : decide (x9_1 < (l0.length : Int)) = true := decide_eq_true c14
    clear c14
    replace H := Option.bind_eq_some_iff.mp H
    obtain ⟨t104, A150, H⟩ := H
    (try dsimp only at H)
    have A15 := Aside0.mk A150
    clear A150
    simp only [Option.some.injEq, Prod.mk.injEq] at H
    obtain ⟨rfl, rfl⟩ := H
    have p103 : 0 ≤ (x9_1 : Int) := of_decide_eq_true (by assumption)
    have q103 : x9_1 < (l0.length : Int) := of_decide_eq_true (by assumption)
    obtain ⟨ad103, e103, hx103_0, hx103_1, hx103_2, hx103_3⟩ := cH_ HR0.out x9_1 p103 q103
    cases e103
    replace hx103_0 := bu_ HB.out hx103_0
    replace hx103_1 := bu_ HB.out hx103_1
    replace hx103_2 := bu_ HB.out hx103_2
    replace hx103_3 := bu_ HB.out hx103_3
    replace p103 := eq_true p103
    replace q103 := eq_true q103
    go_wp2_with (first | (go_at_call 53; (with_reducible refine (cb_.calls ((aa_ l0 x9_1).f0) ((aa_ l0 x9_1).f1.f0) ((aa_ l0 x9_1).f1.f1) ((aa_ l0 x9_1).f1.f2) a1 t104 _ A15.out).mono ?_); rintro e w16 ⟨rfl, hb⟩; replace HB := Aside0.mk (ab_ (bz HB.out) hb); (try clear hb)))
    go_ret2
    exact ⟨by first | rfl | (simp [*, ap_, ao_] <;> rfl), bz HB.out⟩
   rw [if_pos c4] at H
   have c4b0 : decide (x9_1 < x10_1) = true := decide_eq_true c4
   clear c4
   obtain ⟨ji5, hji5⟩ : ∃ j_ : Int, (wrap64 ((IntKind.u64.wrap (wrap64 (x9_1 + x10_1))) / 2)) = j_ := ⟨_, rfl⟩
   replace H : (if 0 ≤ (ji5) then (if (ji5) < (l0.length : Int) then ((cb_.f ((aa_ l0 (ji5)).f0) ((aa_ l0 (ji5)).f1.f0) ((aa_ l0 (ji5)).f1.f1) ((aa_ l0 (ji5)).f1.f2) a1).bind fun t102 => (if t102 < 0 then (bj_.l0 k1 l0 a1 (l0.length : Int) (wrap64 ((ji5) + 1)) x10_1) else (bj_.l0 k1 l0 a1 (l0.length : Int) x9_1 ji5))) else (none)) else (none)) = some (r1, r2) := by first | (rw [hji5] at H; exact H) | (simp only [hji5] at H ⊢; exact H)
   have hji5w : (IntKind.i64.wrap ((IntKind.u64.wrap (wrap64 (x9_1 + x10_1))) / 2)) = ji5 := (i64_w _).trans hji5
   by_cases c6 : 0 ≤ (ji5)
   rotate_left
   ·rw [if_neg c6] at H
    exact absurd H (by simp)
   rw [if_pos c6] at H
   have c6b0 : decide (0 ≤ (ji5)) = true := decide_eq_true c6
   clear c6
   by_cases c7 : (ji5) < (l0.length : Int)
   rotate_left
   ·rw [if_neg c7] at H
    exact absurd H (by simp)
   rw [if_pos c7] at H
   have c7b0 : decide ((ji5) < (l0.length : Int)) = true := decide_eq_true c7
   clear c7
   replace H := Option.bind_eq_some_iff.mp H
   obtain ⟨t102, A80, H⟩ := H
   (try dsimp only at H)
   have A8 := Aside0.mk A80
   clear A80
   have HC9 := Aside0.mk H
   clear H
   have p101 : 0 ≤ ((ji5) : Int) := of_decide_eq_true (by assumption)
   have q101 : (ji5) < (l0.length : Int) := of_decide_eq_true (by assumption)
   obtain ⟨ad101, e101, hx101_0, hx101_1, hx101_2, hx101_3⟩ := cH_ HR0.out (ji5) p101 q101
   cases e101
   replace hx101_0 := bu_ HB.out hx101_0
   replace hx101_1 := bu_ HB.out hx101_1
   replace hx101_2 := bu_ HB.out hx101_2
   replace hx101_3 := bu_ HB.out hx101_3
   replace p101 := eq_true p101
   replace q101 := eq_true q101
   go_upto_if 31 with (first | (go_at_call 53; (with_reducible refine (cb_.calls ((aa_ l0 (ji5)).f0) ((aa_ l0 (ji5)).f1.f0) ((aa_ l0 (ji5)).f1.f1) ((aa_ l0 (ji5)).f1.f2) a1 t102 _ A8.out).mono ?_); rintro e w10 ⟨rfl, hb⟩; replace HB := Aside0.mk (ab_ (bz HB.out) hb); (try clear hb)))
   (try simp only [Act.put, lsa_, ls0_, ls1_])
   have H := HC9.out
   clear HC9
   by_cases c11 : t102 < 0
   rotate_left
   ·rw [if_neg c11] at H
    have c11b0 : decide (t102 < 0) = false := decide_eq_false c11
    clear c11
    (first | rw [c11b0] | (simp only [i64_w, i32_w]; rw [c11b0]) | (simp only [c11b1, Bool.not_true, Bool.not_false]) | (simp only [c11b0, Bool.not_true, Bool.not_false]) | skip)
    have H' := Aside0.mk H
    clear H
    go_wp2
    go_roundg k1
    case measure => have := HK1.out; omega
    case rel => exact ⟨(x9_1), (ji5), (by first | rfl | (simp; done) | (simp [*]; done)), (by first | rfl | (simp; done) | (simp only [← hji5] <;> (first | rfl | simp)) | (simp [*]; done)), H', ⟨by have := HK1.out; omega⟩, ⟨bz HB.out⟩⟩
   rw [if_pos c11] at H
   have c11b0 : decide (t102 < 0) = true := decide_eq_true c11
   clear c11
   (first | rw [c11b0] | (simp only [i64_w, i32_w]; rw [c11b0]) | (simp only [c11b1, Bool.not_true, Bool.not_false]) | (simp only [c11b0, Bool.not_true, Bool.not_false]) | skip)
   have H' := Aside0.mk H
   clear H
   go_wp2
   go_roundg k1
   case measure => have := HK1.out; omega
   case rel => exact ⟨(wrap64 ((ji5) + 1)), (x10_1), (by first | rfl | (simp; done) | (simp only [← hji5] <;> (first | rfl | simp)) | (simp [*]; done)), (by first | rfl | (simp; done) | (simp [*]; done)), H', ⟨by have := HK1.out; omega⟩, ⟨bz HB.out⟩⟩
end Go.Proofs.YtiheginanghhjaaDoor.Q
