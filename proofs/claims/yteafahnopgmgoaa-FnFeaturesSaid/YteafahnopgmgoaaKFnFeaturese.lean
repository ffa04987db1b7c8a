/- For all drawn features: distances are symmetric and satisfy the inequality of triangles, and the ranked features begin with the nearest one (FnFeatures). Conditions: none beyond the statement. This text holds the last walks, the plain law and the row. -/
import Derived.Laws.BitsLemmas
import Derived.SizedLaws
import Derived.ChangeSlices
import Derived.Test.YteafahnopgmgoaaRows
import Derived.WalkKit
import Derived.ProofKit
import Derived.OpenShut
import Derived.ShutString
import Derived.ChangeOld
import Derived.Below
import Derived.Test.YteafahnopgmgoaaKFnFeaturesa
import Derived.Test.YteafahnopgmgoaaKFnFeaturesd
import Derived.Test.YteafahnopgmgoaaKFnFeaturesb
import Derived.Test.YteafahnopgmgoaaKFnFeaturesc
set_option linter.unusedVariables false
set_option linter.unusedSimpArgs false
namespace Go.Proofs.Yteafahnopgmgoaa.Q
open Go.RowKit Go.Proofs.YteafahnopgmgoaaW.PrintWords Go.Proofs.YteafahnopgmgoaaW.PrintLast Go.Proofs.YteafahnopgmgoaaW.PrintMore
attribute [local go_sem] aY_ aW_ br_ bq_ aR_ aQ_ aZ_ aX_
mutual
def aF_.l0 : Nat → List Int → List Int → Int → Option (List Int)
 | 0, _, _, _ => none
 | k + 1, x0, x3, x4 => if x4 < (x0.length : Int) then (aF_.l1 k x0 x3 x4 (x3.length : Int)) else (some x3)
def aF_.l1 : Nat → List Int → List Int → Int → Int → Option (List Int)
 | 0, _, _, _, _ => none
 | k + 1, x0, x3, x4, x5 => if x5 > 0 then (if 0 ≤ (wrap64 (x5 - 1)) then (if (wrap64 (x5 - 1)) < (x3.length : Int) then (if 0 ≤ (rd x3 (wrap64 (x5 - 1))) then (if (rd x3 (wrap64 (x5 - 1))) < (x0.length : Int) then (if 0 ≤ x4 then (if x4 < (x0.length : Int) then (if (rd x0 (rd x3 (wrap64 (x5 - 1)))) < (rd x0 x4) then (aF_.l1 k x0 x3 x4 (wrap64 (x5 - 1))) else (if 0 ≤ x5 then (if x5 ≤ (x3.length : Int) then ((bK_.f (x3.take (x5 : Int).toNat)).bind fun t111 => (if t111.length < 17592186044416 then ((some (t111 ++ [x4] : List Int)).bind fun y114 => ((some (x3.drop (x5 : Int).toNat : List Int)).bind fun y117 => (if y114.length + y117.length < 17592186044416 then (aF_.l0 k x0 (y114 ++ y117) (wrap64 (x4 + 1))) else (none)))) else (none))) else (none)) else (none))) else (none)) else (none)) else (none)) else (none)) else (none)) else (none)) else (if 0 ≤ x5 then (if x5 ≤ (x3.length : Int) then ((bK_.f (x3.take (x5 : Int).toNat)).bind fun t128 => (if t128.length < 17592186044416 then ((some (t128 ++ [x4] : List Int)).bind fun y131 => ((some (x3.drop (x5 : Int).toNat : List Int)).bind fun y134 => (if y131.length + y134.length < 17592186044416 then (aF_.l0 k x0 (y131 ++ y134) (wrap64 (x4 + 1))) else (none)))) else (none))) else (none)) else (none))
end
def aF_.f (k : Nat) (l0 : List Int) : Option (List Int) := aF_.l0 k l0 (([] : List Int)) 0
set_option maxHeartbeats 8000000 in
set_option maxRecDepth 100000 in
theorem aF_.calls (k : Nat) (A0 : Option Addr) (c0 : Nat) (l0 : List Int) (r : List Int) (w : World) (hr0 : Kd.C (Kd.int .i64) w A0 l0.length l0) (hc0 : l0.length ≤ c0) (h : aF_.f k l0 = some r) :
  Calls Try.prog 74 #[.slice A0 l0.length c0] w fun e w' => ∃ v0_ : Value, e = .returned (v0_) ∧ Kd.R (Kd.int .i64) 2 w' w.heap.size (fun _ => True) v0_ r ∧ Below w.heap.size w w' := by
 have HR0 := Aside0.mk hr0
 have HC0 := Aside0.mk hc0
 clear hr0 hc0
 have HB := Aside0.mk (Below.refl w.heap.size w)
 have H : (aF_.l0 k l0 (([] : List Int)) 0) = some r := h
 clear h
 obtain ⟨y101, hy101⟩ : ∃ y_ : List Int, y_ = (([] : List Int)) := ⟨_, rfl⟩
 replace H : (aF_.l0 k l0 y101 0) = some r := by first | (rw [hy101]; with_reducible exact H) | (have H2_ := (Option.bind_some _ _).symm.trans H; rw [hy101]; with_reducible exact H2_) | (have H2_ := (Option.bind_some _ _).symm.trans H; with_reducible exact H2_) | with_reducible exact H | (rw [hy101]; exact H) | exact H
 have Ny101 := Aside0.mk hy101
 clear hy101
 have H' := Aside0.mk H
 clear H
 go_enter Try.func74, Try.ntmps74
 go_wp2_with (first | ((with_reducible refine bg_ (N := 7) rfl ?_); refine Kd.R_lit (Kd.int .i64) _ 2 ?hg (N := 7) ?hd (xs := ([] : List Int)) (inner := []) (ok := fun _ => True) (okp := fun _ => True) ?hr ?hp (fun _ hk => hk) trivial (Below.refl _ _) (Nat.le_refl _) (by simp) ?_; (case hd => rfl); (case hg => rfl); (case hr => (go_simp; try rfl)); (case hp => exact (Reps.none _ _)); intro v102 w2 ho3 hb hg_ hnew_; clear hg_ hnew_; (first | rw [← Ny101.out] at ho3 | (simp only [Int.reduceToNat] at ho3; rw [← Ny101.out] at ho3)); have HO103 := Aside0.mk (Kd.bM_ ho3 (aA_ (bz HB.out))); replace HB := Aside0.mk (am_ (bz HB.out) hb); clear hb ho3))
 repeat (go_quiet (first | ((with_reducible refine bg_ (N := 7) rfl ?_); refine Kd.R_lit (Kd.int .i64) _ 2 ?hg (N := 7) ?hd (xs := ([] : List Int)) (inner := []) (ok := fun _ => True) (okp := fun _ => True) ?hr ?hp (fun _ hk => hk) trivial (Below.refl _ _) (Nat.le_refl _) (by simp) ?_; (case hd => rfl); (case hg => rfl); (case hr => (go_simp; try rfl)); (case hp => exact (Reps.none _ _)); intro v102 w2 ho3 hb hg_ hnew_; clear hg_ hnew_; (first | rw [← Ny101.out] at ho3 | (simp only [Int.reduceToNat] at ho3; rw [← Ny101.out] at ho3)); have HO103 := Aside0.mk (Kd.bM_ ho3 (aA_ (bz HB.out))); replace HB := Aside0.mk (am_ (bz HB.out) hb); clear hb ho3)); try go_wp2_with (first | ((with_reducible refine bg_ (N := 7) rfl ?_); refine Kd.R_lit (Kd.int .i64) _ 2 ?hg (N := 7) ?hd (xs := ([] : List Int)) (inner := []) (ok := fun _ => True) (okp := fun _ => True) ?hr ?hp (fun _ hk => hk) trivial (Below.refl _ _) (Nat.le_refl _) (by simp) ?_; (case hd => rfl); (case hg => rfl); (case hr => (go_simp; try rfl)); (case hp => exact (Reps.none _ _)); intro v102 w2 ho3 hb hg_ hnew_; clear hg_ hnew_; (first | rw [← Ny101.out] at ho3 | (simp only [Int.reduceToNat] at ho3; rw [← Ny101.out] at ho3)); have HO103 := Aside0.mk (Kd.bM_ ho3 (aA_ (bz HB.out))); replace HB := Aside0.mk (am_ (bz HB.out) hb); clear hb ho3)))
 (try simp only [Act.put, lsa_, ls0_, ls1_])
 go_loopg [3, 4] k (fun kq v3 v4 w' => ∃ (x3_1 : List Int) (x4_1 : Int), v4 = .int .i64 x4_1 ∧ Aside0 (aF_.l0 kq l0 x3_1 x4_1 = some r) ∧ Aside0 (kq ≤ k) ∧ Aside0 (Kd.R (Kd.int .i64) 2 w' w.heap.size (fun _ => True) v3 x3_1) ∧ Aside0 (Below w.heap.size w w'))
 case atStart => exact ⟨(y101), (0), (by first | rfl | (simp; done) | (simp [*]; done)), H', ⟨Nat.le_refl _⟩, ⟨rz HO103.out⟩, ⟨bz HB.out⟩⟩
 case round =>
  clear H'
  obtain ⟨x3_1, x4_1, rfl, HA, HK1, HO_3, HB⟩ := hrel
  cases gk with
  | zero => exact absurd HA.out (by simp [aF_.l0])
  | succ k1 =>
   have H := HA.out
   clear HA
   simp only [aF_.l0] at H
   by_cases c4 : x4_1 < (l0.length : Int)
   rotate_left
   ·rw [if_neg c4] at H
    have c4b0 : decide (x4_1 < (l0.length : Int)) = false := decide_eq_false c4
    clear c4
    obtain rfl := Option.some.inj H
    go_wp2
    repeat (go_quiet (fail); try go_wp2)
    go_ret
    exact ⟨_, by first | rfl | (simp [*, aH_, aG_] <;> rfl), rz HO_3.out, bz HB.out⟩
   rw [if_pos c4] at H
   have c4b0 : decide (x4_1 < (l0.length : Int)) = true := decide_eq_true c4
   clear c4
   have H' := Aside0.mk H
   clear H
   obtain ⟨Ao5, co5, eo5⟩ := Kd.bP_ HO_3.out
   subst eo5
   go_wp2
   repeat (go_quiet (fail); try go_wp2)
   (try simp only [Act.put, lsa_, ls0_, ls1_])
   go_loopg [5] k1 (fun kq v5 w' => ∃ (x5_2 : Int), v5 = .int .i64 x5_2 ∧ Aside0 (aF_.l1 kq l0 x3_1 x4_1 x5_2 = some r) ∧ Aside0 (kq ≤ k1) ∧ Aside0 (Kd.R (Kd.int .i64) 2 w' w.heap.size (fun _ => True) (.slice Ao5 x3_1.length co5) x3_1) ∧ Aside0 (Below w.heap.size w w'))
   case atStart => exact ⟨((x3_1.length : Int)), (by first | rfl | (simp; done) | (simp [*]; done)), H', ⟨Nat.le_refl _⟩, ⟨rz HO_3.out⟩, ⟨bz HB.out⟩⟩
   case round =>
    clear H'
    obtain ⟨x5_2, rfl, HA, HK2, HO_3, HB⟩ := hrel
    cases gk with
    | zero => exact absurd HA.out (by simp [aF_.l1])
    | succ k2 =>
     have H := HA.out
     clear HA
     simp only [aF_.l1] at H
     by_cases c6 : x5_2 > 0
     rotate_left
     ·rw [if_neg c6] at H
      have c6b0 : decide (0 < x5_2) = false := decide_eq_false c6
      clear c6
      by_cases c27 : 0 ≤ x5_2
      rotate_left
      ·rw [if_neg c27] at H
       exact absurd H (by simp)
      rw [if_pos c27] at H
      have c27b0 := eq_true c27
      have c27b1 : decide (0 ≤ x5_2) = true := decide_eq_true c27
      clear c27
      by_cases c28 : x5_2 ≤ (x3_1.length : Int)
      rotate_left
      ·rw [if_neg c28] at H
       exact absurd H (by simp)
      rw [if_pos c28] at H
      have c28b0 := eq_true c28
      have c28b1 : decide (x5_2 ≤ (x3_1.length : Int)) = true := decide_eq_true c28
      clear c28
      obtain ⟨y124, hy124⟩ : ∃ y_ : List Int, y_ = (x3_1.take (x5_2 : Int).toNat) := ⟨_, rfl⟩
      replace H : ((bK_.f y124).bind fun t128 => (if t128.length < 17592186044416 then ((some (t128 ++ [x4_1] : List Int)).bind fun y131 => ((some (x3_1.drop (x5_2 : Int).toNat : List Int)).bind fun y134 => (if y131.length + y134.length < 17592186044416 then (aF_.l0 k2 l0 (y131 ++ y134) (wrap64 (x4_1 + 1))) else (none)))) else (none))) = some r := by first | (rw [hy124]; with_reducible exact H) | (have H2_ := (Option.bind_some _ _).symm.trans H; rw [hy124]; with_reducible exact H2_) | (have H2_ := (Option.bind_some _ _).symm.trans H; with_reducible exact H2_) | with_reducible exact H | (rw [hy124]; exact H) | exact H
      have Ny124 := Aside0.mk hy124
      clear hy124
      replace H := Option.bind_eq_some_iff.mp H
      obtain ⟨t128, A290, H⟩ := H
      (try dsimp only at H)
      have A29 := Aside0.mk A290
      clear A290
      by_cases c30 : t128.length < 17592186044416
      rotate_left
      ·rw [if_neg c30] at H
       exact absurd H (by simp)
      rw [if_pos c30] at H
      have LMc30 := Aside0.mk c30
      clear c30
      obtain ⟨y131, hy131⟩ : ∃ y_ : List Int, y_ = (t128 ++ [x4_1]) := ⟨_, rfl⟩
      replace H : ((some (x3_1.drop (x5_2 : Int).toNat : List Int)).bind fun y134 => (if y131.length + y134.length < 17592186044416 then (aF_.l0 k2 l0 (y131 ++ y134) (wrap64 (x4_1 + 1))) else (none))) = some r := by first | (rw [hy131]; with_reducible exact H) | (have H2_ := (Option.bind_some _ _).symm.trans H; rw [hy131]; with_reducible exact H2_) | (have H2_ := (Option.bind_some _ _).symm.trans H; with_reducible exact H2_) | with_reducible exact H | (rw [hy131]; exact H) | exact H
      have Ny131 := Aside0.mk hy131
      clear hy131
      have c31b0 := eq_true (of_decide_eq_true (by assumption) : 0 ≤ x5_2)
      have c32b0 := eq_true (of_decide_eq_true (by assumption) : x5_2 ≤ (x3_1.length : Int))
      obtain ⟨y134, hy134⟩ : ∃ y_ : List Int, y_ = (x3_1.drop (x5_2 : Int).toNat) := ⟨_, rfl⟩
      replace H : (if y131.length + y134.length < 17592186044416 then (aF_.l0 k2 l0 (y131 ++ y134) (wrap64 (x4_1 + 1))) else (none)) = some r := by first | (rw [hy134]; with_reducible exact H) | (have H2_ := (Option.bind_some _ _).symm.trans H; rw [hy134]; with_reducible exact H2_) | (have H2_ := (Option.bind_some _ _).symm.trans H; with_reducible exact H2_) | with_reducible exact H | (rw [hy134]; exact H) | exact H
      have Ny134 := Aside0.mk hy134
      clear hy134
      by_cases c33 : y131.length + y134.length < 17592186044416
      rotate_left
      ·rw [if_neg c33] at H
       exact absurd H (by simp)
      rw [if_pos c33] at H
      have LMc33 := Aside0.mk c33
      clear c33
      obtain ⟨y138, hy138⟩ : ∃ y_ : List Int, y_ = (y131 ++ y134) := ⟨_, rfl⟩
      replace H : (aF_.l0 k2 l0 y138 (wrap64 (x4_1 + 1))) = some r := by first | (rw [hy138]; with_reducible exact H) | (have H2_ := (Option.bind_some _ _).symm.trans H; rw [hy138]; with_reducible exact H2_) | (have H2_ := (Option.bind_some _ _).symm.trans H; with_reducible exact H2_) | with_reducible exact H | (rw [hy138]; exact H) | exact H
      have Ny138 := Aside0.mk hy138
      clear hy138
      have H' := Aside0.mk H
      clear H
      have q34 : (x5_2 : Int) ≤ ((x3_1.length : Int) : Int) := of_decide_eq_true (by assumption)
      obtain ⟨i034, hi034, _, hsz34, _⟩ := info_parts info2
      have hroom34 : x3_1.length ≤ co5 := (Kd.aD_ HO_3.out).2.1
      have hC34 : Kd.C (Kd.int .i64) _ Ao5 x3_1.length x3_1 := (Kd.aD_ HO_3.out).2.2
      have hcut34 := cut_to (P := Try.prog) 22 2 .i64 Try.underlying22 hi034 Ao5 x3_1.length co5 x5_2 (of_decide_eq_true (by assumption)) q34 hroom34
      have hr34 := Kd.C_take (m := (x5_2 : Int).toNat) hC34 (by omega)
      have hy34 : y124.length = (x5_2 : Int).toNat := (by rw [Ny124.out, List.length_take]; omega)
      rw [← Ny124.out] at hr34
      rw [← hy34] at hcut34
      have HR127 := Aside0.mk hr34
      have HC127 := Aside0.mk (show y124.length ≤ co5 from by omega)
      clear hr34 hC34 hroom34 hi034 hsz34
      have KY34 := Aside0.mk hy34
      clear hy34
      have KL34 := Aside0.mk (show (x5_2 : Int).toNat ≤ x3_1.length from by omega)
      replace q34 := eq_true q34
      go_wp2_with (first | (go_at_call 96; (with_reducible refine (bK_.calls _ _ y124 t128 _ ?side1 ?side2 A29.out).mono ?_); (case side1 => repeat (first | exact (by repeat (first | (with_reducible exact HR127.out) | (with_reducible first | refine Kd.bn_ ?_ _ | refine Kd.bm_ ?_ _ | refine Kd.bE_ ?_) | exact HR127.out)) | (with_reducible first | refine Kd.bn_ ?_ _ | refine Kd.bm_ ?_ _ | refine Kd.bE_ ?_))); (case side2 => exact HC127.out); rintro e w35 ⟨v129, rfl, ho0, hb⟩; have HO130 := Aside0.mk (Kd.bM_ (Kd.R_new' ho0 (Kd.R_lt (rz HO_3.out))) (aA_ (bz HB.out))); replace HO_3 := Aside0.mk (Kd.cA_ (rz HO_3.out) (Kd.cr_ ho0) hb); replace HR127 := Aside0.mk (Kd.bi_ (by repeat (first | (with_reducible exact HR127.out) | (with_reducible first | refine Kd.bn_ ?_ _ | refine Kd.bm_ ?_ _ | refine Kd.bE_ ?_) | exact HR127.out)) hb); replace HB := Aside0.mk (am_ (bz HB.out) hb); (try clear hb); (try clear ho0)) | ((with_reducible refine bx_ (b := .append) (xs := #[.tmp 39, .tmp 41]) rfl ?_); at_builtin; refine Kd.cD_ (Kd.int .i64) (w0 := w) w.heap.size rfl (.tmp 39) (.tmp 41) 22 2 (.int .i64 0) 8 rfl Try.underlying22 info2 rfl (by decide) (by omega) v129 t128 x4_1 [.int .i64 x4_1] (fun k_ => some k_ ≠ (.slice Ao5 x3_1.length co5 : Value).ownBlock) (fun _ => False) rfl rfl ?aP (fun _ hk => hk.elim) ?aF ?aO ?aB ?aS ?aL ?_; (case aP => exact rfl); (case aB => exact (bz HB.out)); (case aF => exact (fun k_ hk => Kd.fresh' (Kd.R_lt (rz HO_3.out)) k_ hk)); (case aO => exact (rz (Kd.bp_ HO130.out (fun _ hk => hk.2)))); (case aS => exact (aA_ (bz HB.out))); (case aL => have := LMc30.out; omega); intro v132 w36 ho hb hg hat; rw [← Ny131.out] at ho; replace HB := Aside0.mk (hb); replace HR127 := Aside0.mk ((show Kd.C (Kd.int .i64) w36 Ao5 y124.length y124 from by rw [Ny124.out]; exact Kd.C_take (m := (x5_2 : Int).toNat) ((Kd.aD_ (Kd.bC_ (ok := (fun _ => True)) (rz HO_3.out) hg hat)).2.2) KL34.out)); replace HO_3 := Aside0.mk (Kd.bC_ (ok := (fun _ => True)) (rz HO_3.out) hg hat); have HO133 := Aside0.mk (ho); clear HO130; clear ho hb hg hat; have q37 : (x5_2 : Int) ≤ ((x3_1.length : Int) : Int) := of_decide_eq_true (by assumption); obtain ⟨i037, hi037, _, hsz37, _⟩ := info_parts info2; have hroom37 : x3_1.length ≤ co5 := (Kd.aD_ HO_3.out).2.1; have hC37 : Kd.C (Kd.int .i64) _ Ao5 x3_1.length x3_1 := (Kd.aD_ HO_3.out).2.2; have q037 : (0 : Int) ≤ (x5_2 : Int) := of_decide_eq_true (by assumption); have hcut37 := cut_from (P := Try.prog) 22 2 .i64 Try.underlying22 hi037 1 hsz37 Ao5 x3_1.length co5 x5_2 q037 q37; have hr37 := Kd.C_drop (m := (x5_2 : Int).toNat) (c := co5) hC37 (by omega) hroom37; obtain ⟨A37, hA37⟩ : ∃ A1, A1 = (if co5 = (x5_2 : Int).toNat then Ao5 else (Ao5 : Option Addr).map (·.add ((x5_2 : Int).toNat * 1))) := ⟨_, rfl⟩; obtain ⟨c37, hc37⟩ : ∃ c1, c1 = co5 - (x5_2 : Int).toNat := ⟨_, rfl⟩; have hy37 : y134.length = x3_1.length - (x5_2 : Int).toNat := (by rw [Ny134.out, List.length_drop] <;> omega); rw [show (x3_1).drop (x5_2 : Int).toNat = y134 from Ny134.out.symm] at hr37; replace hr37 : Kd.C (Kd.int .i64) _ A37 y134.length y134 := (by rw [hA37]; exact hr37); rw [← hy37, ← hA37, ← hc37] at hcut37; have HR137 := Aside0.mk hr37; have HC137 := Aside0.mk (show y134.length ≤ c37 from by rw [hy37, hc37]; exact Nat.sub_le_sub_right hroom37 _); clear hr37 hC37 hroom37 hi037 hsz37 hc37; have KY37 := Aside0.mk hy37; have KA37 := Aside0.mk hA37; clear hy37 hA37; have KL37 := Aside0.mk (show (x5_2 : Int).toNat ≤ x3_1.length from by omega); replace q37 := eq_true q37) | ((with_reducible refine bx_ (b := .append) (xs := #[.tmp 43, .tmp 46]) rfl ?_); at_builtin; refine Kd.ci_ (Kd.int .i64) (w0 := w) w.heap.size rfl (.tmp 43) (.tmp 46) 22 2 (.int .i64 0) 8 rfl Try.underlying22 info2 rfl (by decide) (by omega) v132 y131 y134 _ _ _ (fun k_ => some k_ ≠ (.slice Ao5 x3_1.length co5 : Value).ownBlock) (fun _ => False) rfl rfl ?aO ?aR (fun _ _ h => h) (fun _ h => h.elim) ?aF ?aB ?aS ?aL ?_; (case aR => repeat (first | exact (by repeat (first | (with_reducible exact HR137.out) | (with_reducible first | refine Kd.bn_ ?_ _ | refine Kd.bm_ ?_ _ | refine Kd.bE_ ?_) | exact HR137.out)) | (with_reducible first | refine Kd.bn_ ?_ _ | refine Kd.bm_ ?_ _ | refine Kd.bE_ ?_))); (case aB => exact (bz HB.out)); (case aF => exact (fun k_ hk => Kd.fresh' (Kd.R_lt (rz HO_3.out)) k_ hk)); (case aO => exact (rz HO133.out)); (case aS => exact (aA_ (bz HB.out))); (case aL => have := LMc33.out; omega); intro v139 w38 ho hb hg hat; rw [← Ny138.out] at ho; replace HB := Aside0.mk (hb); replace HR127 := Aside0.mk ((show Kd.C (Kd.int .i64) w38 Ao5 y124.length y124 from by rw [Ny124.out]; exact Kd.C_take (m := (x5_2 : Int).toNat) ((Kd.aD_ (Kd.bC_ (ok := (fun _ => True)) (rz HO_3.out) hg hat)).2.2) KL34.out)); replace HR137 := Aside0.mk ((show Kd.C (Kd.int .i64) w38 A37 y134.length y134 from by rw [Ny134.out, KA37.out]; exact Kd.C_drop (m := (x5_2 : Int).toNat) (c := co5) ((Kd.aD_ (Kd.bC_ (ok := (fun _ => True)) (rz HO_3.out) hg hat)).2.2) KL37.out ((Kd.aD_ (Kd.bC_ (ok := (fun _ => True)) (rz HO_3.out) hg hat)).2.1))); replace HO_3 := Aside0.mk (Kd.bC_ (ok := (fun _ => True)) (rz HO_3.out) hg hat); have HO140 := Aside0.mk (ho); clear HO133; clear ho hb hg hat))
      repeat (go_quiet (first | (go_at_call 96; (with_reducible refine (bK_.calls _ _ y124 t128 _ ?side1 ?side2 A29.out).mono ?_); (case side1 => repeat (first | exact (by repeat (first | (with_reducible exact HR127.out) | (with_reducible first | refine Kd.bn_ ?_ _ | refine Kd.bm_ ?_ _ | refine Kd.bE_ ?_) | exact HR127.out)) | (with_reducible first | refine Kd.bn_ ?_ _ | refine Kd.bm_ ?_ _ | refine Kd.bE_ ?_))); (case side2 => exact HC127.out); rintro e w35 ⟨v129, rfl, ho0, hb⟩; have HO130 := Aside0.mk (Kd.bM_ (Kd.R_new' ho0 (Kd.R_lt (rz HO_3.out))) (aA_ (bz HB.out))); replace HO_3 := Aside0.mk (Kd.cA_ (rz HO_3.out) (Kd.cr_ ho0) hb); replace HR127 := Aside0.mk (Kd.bi_ (by repeat (first | (with_reducible exact HR127.out) | (with_reducible first | refine Kd.bn_ ?_ _ | refine Kd.bm_ ?_ _ | refine Kd.bE_ ?_) | exact HR127.out)) hb); replace HB := Aside0.mk (am_ (bz HB.out) hb); (try clear hb); (try clear ho0)) | ((with_reducible refine bx_ (b := .append) (xs := #[.tmp 39, .tmp 41]) rfl ?_); at_builtin; refine Kd.cD_ (Kd.int .i64) (w0 := w) w.heap.size rfl (.tmp 39) (.tmp 41) 22 2 (.int .i64 0) 8 rfl Try.underlying22 info2 rfl (by decide) (by omega) v129 t128 x4_1 [.int .i64 x4_1] (fun k_ => some k_ ≠ (.slice Ao5 x3_1.length co5 : Value).ownBlock) (fun _ => False) rfl rfl ?aP (fun _ hk => hk.elim) ?aF ?aO ?aB ?aS ?aL ?_; (case aP => exact rfl); (case aB => exact (bz HB.out)); (case aF => exact (fun k_ hk => Kd.fresh' (Kd.R_lt (rz HO_3.out)) k_ hk)); (case aO => exact (rz (Kd.bp_ HO130.out (fun _ hk => hk.2)))); (case aS => exact (aA_ (bz HB.out))); (case aL => have := LMc30.out; omega); intro v132 w36 ho hb hg hat; rw [← Ny131.out] at ho; replace HB := Aside0.mk (hb); replace HR127 := Aside0.mk ((show Kd.C (Kd.int .i64) w36 Ao5 y124.length y124 from by rw [Ny124.out]; exact Kd.C_take (m := (x5_2 : Int).toNat) ((Kd.aD_ (Kd.bC_ (ok := (fun _ => True)) (rz HO_3.out) hg hat)).2.2) KL34.out)); replace HO_3 := Aside0.mk (Kd.bC_ (ok := (fun _ => True)) (rz HO_3.out) hg hat); have HO133 := Aside0.mk (ho); clear HO130; clear ho hb hg hat; have q37 : (x5_2 : Int) ≤ ((x3_1.length : Int) : Int) := of_decide_eq_true (by assumption); obtain ⟨i037, hi037, _, hsz37, _⟩ := info_parts info2; have hroom37 : x3_1.length ≤ co5 := (Kd.aD_ HO_3.out).2.1; have hC37 : Kd.C (Kd.int .i64) _ Ao5 x3_1.length x3_1 := (Kd.aD_ HO_3.out).2.2; have q037 : (0 : Int) ≤ (x5_2 : Int) := of_decide_eq_true (by assumption); have hcut37 := cut_from (P := Try.prog) 22 2 .i64 Try.underlying22 hi037 1 hsz37 Ao5 x3_1.length co5 x5_2 q037 q37; have hr37 := Kd.C_drop (m := (x5_2 : Int).toNat) (c := co5) hC37 (by omega) hroom37; obtain ⟨A37, hA37⟩ : ∃ A1, A1 = (if co5 = (x5_2 : Int).toNat then Ao5 else (Ao5 : Option Addr).map (·.add ((x5_2 : Int).toNat * 1))) := ⟨_, rfl⟩; obtain ⟨c37, hc37⟩ : ∃ c1, c1 = co5 - (x5_2 : Int).toNat := ⟨_, rfl⟩; have hy37 : y134.length = x3_1.length - (x5_2 : Int).toNat := (by rw [Ny134.out, List.length_drop] <;> omega); rw [show (x3_1).drop (x5_2 : Int).toNat = y134 from Ny134.out.symm] at hr37; replace hr37 : Kd.C (Kd.int .i64) _ A37 y134.length y134 := (by rw [hA37]; exact hr37); rw [← hy37, ← hA37, ← hc37] at hcut37; have HR137 := Aside0.mk hr37; have HC137 := Aside0.mk (show y134.length ≤ c37 from by rw [hy37, hc37]; exact Nat.sub_le_sub_right hroom37 _); clear hr37 hC37 hroom37 hi037 hsz37 hc37; have KY37 := Aside0.mk hy37; have KA37 := Aside0.mk hA37; clear hy37 hA37; have KL37 := Aside0.mk (show (x5_2 : Int).toNat ≤ x3_1.length from by omega); replace q37 := eq_true q37) | ((with_reducible refine bx_ (b := .append) (xs := #[.tmp 43, .tmp 46]) rfl ?_); at_builtin; refine Kd.ci_ (Kd.int .i64) (w0 := w) w.heap.size rfl (.tmp 43) (.tmp 46) 22 2 (.int .i64 0) 8 rfl Try.underlying22 info2 rfl (by decide) (by omega) v132 y131 y134 _ _ _ (fun k_ => some k_ ≠ (.slice Ao5 x3_1.length co5 : Value).ownBlock) (fun _ => False) rfl rfl ?aO ?aR (fun _ _ h => h) (fun _ h => h.elim) ?aF ?aB ?aS ?aL ?_; (case aR => repeat (first | exact (by repeat (first | (with_reducible exact HR137.out) | (with_reducible first | refine Kd.bn_ ?_ _ | refine Kd.bm_ ?_ _ | refine Kd.bE_ ?_) | exact HR137.out)) | (with_reducible first | refine Kd.bn_ ?_ _ | refine Kd.bm_ ?_ _ | refine Kd.bE_ ?_))); (case aB => exact (bz HB.out)); (case aF => exact (fun k_ hk => Kd.fresh' (Kd.R_lt (rz HO_3.out)) k_ hk)); (case aO => exact (rz HO133.out)); (case aS => exact (aA_ (bz HB.out))); (case aL => have := LMc33.out; omega); intro v139 w38 ho hb hg hat; rw [← Ny138.out] at ho; replace HB := Aside0.mk (hb); replace HR127 := Aside0.mk ((show Kd.C (Kd.int .i64) w38 Ao5 y124.length y124 from by rw [Ny124.out]; exact Kd.C_take (m := (x5_2 : Int).toNat) ((Kd.aD_ (Kd.bC_ (ok := (fun _ => True)) (rz HO_3.out) hg hat)).2.2) KL34.out)); replace HR137 := Aside0.mk ((show Kd.C (Kd.int .i64) w38 A37 y134.length y134 from by rw [Ny134.out, KA37.out]; exact Kd.C_drop (m := (x5_2 : Int).toNat) (c := co5) ((Kd.aD_ (Kd.bC_ (ok := (fun _ => True)) (rz HO_3.out) hg hat)).2.2) KL37.out ((Kd.aD_ (Kd.bC_ (ok := (fun _ => True)) (rz HO_3.out) hg hat)).2.1))); replace HO_3 := Aside0.mk (Kd.bC_ (ok := (fun _ => True)) (rz HO_3.out) hg hat); have HO140 := Aside0.mk (ho); clear HO133; clear ho hb hg hat)); try go_wp2_with (first | (go_at_call 96; (with_reducible refine (bK_.calls _ _ y124 t128 _ ?side1 ?side2 A29.out).mono ?_); (case side1 => repeat (first | exact (by repeat (first | (with_reducible exact HR127.out) | (with_reducible first | refine Kd.bn_ ?_ _ | refine Kd.bm_ ?_ _ | refine Kd.bE_ ?_) | exact HR127.out)) | (with_reducible first | refine Kd.bn_ ?_ _ | refine Kd.bm_ ?_ _ | refine Kd.bE_ ?_))); (case side2 => exact HC127.out); rintro e w35 ⟨v129, rfl, ho0, hb⟩; have HO130 := Aside0.mk (Kd.bM_ (Kd.R_new' ho0 (Kd.R_lt (rz HO_3.out))) (aA_ (bz HB.out))); replace HO_3 := Aside0.mk (Kd.cA_ (rz HO_3.out) (Kd.cr_ ho0) hb); replace HR127 := Aside0.mk (Kd.bi_ (by repeat (first | (with_reducible exact HR127.out) | (with_reducible first | refine Kd.bn_ ?_ _ | refine Kd.bm_ ?_ _ | refine Kd.bE_ ?_) | exact HR127.out)) hb); replace HB := Aside0.mk (am_ (bz HB.out) hb); (try clear hb); (try clear ho0)) | ((with_reducible refine bx_ (b := .append) (xs := #[.tmp 39, .tmp 41]) rfl ?_); at_builtin; refine Kd.cD_ (Kd.int .i64) (w0 := w) w.heap.size rfl (.tmp 39) (.tmp 41) 22 2 (.int .i64 0) 8 rfl Try.underlying22 info2 rfl (by decide) (by omega) v129 t128 x4_1 [.int .i64 x4_1] (fun k_ => some k_ ≠ (.slice Ao5 x3_1.length co5 : Value).ownBlock) (fun _ => False) rfl rfl ?aP (fun _ hk => hk.elim) ?aF ?aO ?aB ?aS ?aL ?_; (case aP => exact rfl); (case aB => exact (bz HB.out)); (case aF => exact (fun k_ hk => Kd.fresh' (Kd.R_lt (rz HO_3.out)) k_ hk)); (case aO => exact (rz (Kd.bp_ HO130.out (fun _ hk => hk.2)))); (case aS => exact (aA_ (bz HB.out))); (case aL => have := LMc30.out; omega); intro v132 w36 ho hb hg hat; rw [← Ny131.out] at ho; replace HB := Aside0.mk (hb); replace HR127 := Aside0.mk ((show Kd.C (Kd.int .i64) w36 Ao5 y124.length y124 from by rw [Ny124.out]; exact Kd.C_take (m := (x5_2 : Int).toNat) ((Kd.aD_ (Kd.bC_ (ok := (fun _ => True)) (rz HO_3.out) hg hat)).2.2) KL34.out)); replace HO_3 := Aside0.mk (Kd.bC_ (ok := (fun _ => True)) (rz HO_3.out) hg hat); have HO133 := Aside0.mk (ho); clear HO130; clear ho hb hg hat; have q37 : (x5_2 : Int) ≤ ((x3_1.length : Int) : Int) := of_decide_eq_true (by assumption); obtain ⟨i037, hi037, _, hsz37, _⟩ := info_parts info2; have hroom37 : x3_1.length ≤ co5 := (Kd.aD_ HO_3.out).2.1; have hC37 : Kd.C (Kd.int .i64) _ Ao5 x3_1.length x3_1 := (Kd.aD_ HO_3.out).2.2; have q037 : (0 : Int) ≤ (x5_2 : Int) := of_decide_eq_true (by assumption); have hcut37 := cut_from (P := Try.prog) 22 2 .i64 Try.underlying22 hi037 1 hsz37 Ao5 x3_1.length co5 x5_2 q037 q37; have hr37 := Kd.C_drop (m := (x5_2 : Int).toNat) (c := co5) hC37 (by omega) hroom37; obtain ⟨A37, hA37⟩ : ∃ A1, A1 = (if co5 = (x5_2 : Int).toNat then Ao5 else (Ao5 : Option Addr).map (·.add ((x5_2 : Int).toNat * 1))) := ⟨_, rfl⟩; obtain ⟨c37, hc37⟩ : ∃ c1, c1 = co5 - (x5_2 : Int).toNat := ⟨_, rfl⟩; have hy37 : y134.length = x3_1.length - (x5_2 : Int).toNat := (by rw [Ny134.out, List.length_drop] <;> omega); rw [show (x3_1).drop (x5_2 : Int).toNat = y134 from Ny134.out.symm] at hr37; replace hr37 : Kd.C (Kd.int .i64) _ A37 y134.length y134 := (by rw [hA37]; exact hr37); rw [← hy37, ← hA37, ← hc37] at hcut37; have HR137 := Aside0.mk hr37; have HC137 := Aside0.mk (show y134.length ≤ c37 from by rw [hy37, hc37]; exact Nat.sub_le_sub_right hroom37 _); clear hr37 hC37 hroom37 hi037 hsz37 hc37; have KY37 := Aside0.mk hy37; have KA37 := Aside0.mk hA37; clear hy37 hA37; have KL37 := Aside0.mk (show (x5_2 : Int).toNat ≤ x3_1.length from by omega); replace q37 := eq_true q37) | ((with_reducible refine bx_ (b := .append) (xs := #[.tmp 43, .tmp 46]) rfl ?_); at_builtin; refine Kd.ci_ (Kd.int .i64) (w0 := w) w.heap.size rfl (.tmp 43) (.tmp 46) 22 2 (.int .i64 0) 8 rfl Try.underlying22 info2 rfl (by decide) (by omega) v132 y131 y134 _ _ _ (fun k_ => some k_ ≠ (.slice Ao5 x3_1.length co5 : Value).ownBlock) (fun _ => False) rfl rfl ?aO ?aR (fun _ _ h => h) (fun _ h => h.elim) ?aF ?aB ?aS ?aL ?_; (case aR => repeat (first | exact (by repeat (first | (with_reducible exact HR137.out) | (with_reducible first | refine Kd.bn_ ?_ _ | refine Kd.bm_ ?_ _ | refine Kd.bE_ ?_) | exact HR137.out)) | (with_reducible first | refine Kd.bn_ ?_ _ | refine Kd.bm_ ?_ _ | refine Kd.bE_ ?_))); (case aB => exact (bz HB.out)); (case aF => exact (fun k_ hk => Kd.fresh' (Kd.R_lt (rz HO_3.out)) k_ hk)); (case aO => exact (rz HO133.out)); (case aS => exact (aA_ (bz HB.out))); (case aL => have := LMc33.out; omega); intro v139 w38 ho hb hg hat; rw [← Ny138.out] at ho; replace HB := Aside0.mk (hb); replace HR127 := Aside0.mk ((show Kd.C (Kd.int .i64) w38 Ao5 y124.length y124 from by rw [Ny124.out]; exact Kd.C_take (m := (x5_2 : Int).toNat) ((Kd.aD_ (Kd.bC_ (ok := (fun _ => True)) (rz HO_3.out) hg hat)).2.2) KL34.out)); replace HR137 := Aside0.mk ((show Kd.C (Kd.int .i64) w38 A37 y134.length y134 from by rw [Ny134.out, KA37.out]; exact Kd.C_drop (m := (x5_2 : Int).toNat) (c := co5) ((Kd.aD_ (Kd.bC_ (ok := (fun _ => True)) (rz HO_3.out) hg hat)).2.2) KL37.out ((Kd.aD_ (Kd.bC_ (ok := (fun _ => True)) (rz HO_3.out) hg hat)).2.1))); replace HO_3 := Aside0.mk (Kd.bC_ (ok := (fun _ => True)) (rz HO_3.out) hg hat); have HO140 := Aside0.mk (ho); clear HO133; clear ho hb hg hat)))
      go_roundg k2
      case measure => have := HK1.out; have := HK2.out; omega
      case rel => exact ⟨(y138), (wrap64 (x4_1 + 1)), (by first | rfl | (simp; done) | (simp [*]; done)), H', ⟨by have := HK1.out; have := HK2.out; omega⟩, ⟨rz (Kd.bp_ HO140.out (fun _ hk => trivial))⟩, ⟨bz HB.out⟩⟩
     rw [if_pos c6] at H
     have c6b0 : decide (0 < x5_2) = true := decide_eq_true c6
     clear c6
     obtain ⟨ji7, hji7⟩ : ∃ j_ : Int, (wrap64 (x5_2 - 1)) = j_ := ⟨_, rfl⟩
     replace H : (if 0 ≤ (ji7) then (if (ji7) < (x3_1.length : Int) then (if 0 ≤ (rd x3_1 (ji7)) then (if (rd x3_1 (ji7)) < (l0.length : Int) then (if 0 ≤ x4_1 then (if x4_1 < (l0.length : Int) then (if (rd l0 (rd x3_1 (ji7))) < (rd l0 x4_1) then (aF_.l1 k2 l0 x3_1 x4_1 ji7) else (if 0 ≤ x5_2 then (if x5_2 ≤ (x3_1.length : Int) then ((bK_.f (x3_1.take (x5_2 : Int).toNat)).bind fun t111 => (if t111.length < 17592186044416 then ((some (t111 ++ [x4_1] : List Int)).bind fun y114 => ((some (x3_1.drop (x5_2 : Int).toNat : List Int)).bind fun y117 => (if y114.length + y117.length < 17592186044416 then (aF_.l0 k2 l0 (y114 ++ y117) (wrap64 (x4_1 + 1))) else (none)))) else (none))) else (none)) else (none))) else (none)) else (none)) else (none)) else (none)) else (none)) else (none)) = some r := by first | (rw [hji7] at H; exact H) | (simp only [hji7] at H ⊢; exact H)
     have hji7w : (IntKind.i64.wrap (x5_2 - 1)) = ji7 := (i64_w _).trans hji7
     by_cases c8 : 0 ≤ (ji7)
     rotate_left
     ·rw [if_neg c8] at H
      exact absurd H (by simp)
     rw [if_pos c8] at H
     have c8b0 : decide (0 ≤ (ji7)) = true := decide_eq_true c8
     clear c8
     by_cases c9 : (ji7) < (x3_1.length : Int)
     rotate_left
     ·rw [if_neg c9] at H
      exact absurd H (by simp)
     rw [if_pos c9] at H
     have c9b0 : decide ((ji7) < (x3_1.length : Int)) = true := decide_eq_true c9
     clear c9
     by_cases c10 : 0 ≤ (rd x3_1 (ji7))
     rotate_left
     ·rw [if_neg c10] at H
      exact absurd H (by simp)
     rw [if_pos c10] at H
     have c10b0 : decide (0 ≤ (rd x3_1 (ji7))) = true := decide_eq_true c10
     clear c10
     by_cases c11 : (rd x3_1 (ji7)) < (l0.length : Int)
     rotate_left
     ·rw [if_neg c11] at H
      exact absurd H (by simp)
     rw [if_pos c11] at H
     have c11b0 : decide ((rd x3_1 (ji7)) < (l0.length : Int)) = true := decide_eq_true c11
     clear c11
     by_cases c12 : 0 ≤ x4_1
     rotate_left
     ·rw [if_neg c12] at H
      exact absurd H (by simp)
     rw [if_pos c12] at H
     have c12b0 : decide (0 ≤ x4_1) = true := decide_eq_true c12
     clear c12
     by_cases c13 : x4_1 < (l0.length : Int)
     rotate_left
     ·rw [if_neg c13] at H
      exact absurd H (by simp)
     rw [if_pos c13] at H
     have c13b0 : decide (x4_1 < (l0.length : Int)) = true := decide_eq_true c13
     clear c13
     by_cases c14 : (rd l0 (rd x3_1 (ji7))) < (rd l0 x4_1)
     rotate_left
     ·rw [if_neg c14] at H
      have c14b0 : decide ((rd l0 (rd x3_1 (ji7))) < (rd l0 x4_1)) = false := decide_eq_false c14
      clear c14
      by_cases c15 : 0 ≤ x5_2
      rotate_left
      ·rw [if_neg c15] at H
       exact absurd H (by simp)
      rw [if_pos c15] at H
      have c15b0 := eq_true c15
      have c15b1 : decide (0 ≤ x5_2) = true := decide_eq_true c15
      clear c15
      by_cases c16 : x5_2 ≤ (x3_1.length : Int)
      rotate_left
      ·rw [if_neg c16] at H
       exact absurd H (by simp)
      rw [if_pos c16] at H
      have c16b0 := eq_true c16
      have c16b1 : decide (x5_2 ≤ (x3_1.length : Int)) = true := decide_eq_true c16
      clear c16
      obtain ⟨y107, hy107⟩ : ∃ y_ : List Int, y_ = (x3_1.take (x5_2 : Int).toNat) := ⟨_, rfl⟩
      replace H : ((bK_.f y107).bind fun t111 => (if t111.length < 17592186044416 then ((some (t111 ++ [x4_1] : List Int)).bind fun y114 => ((some (x3_1.drop (x5_2 : Int).toNat : List Int)).bind fun y117 => (if y114.length + y117.length < 17592186044416 then (aF_.l0 k2 l0 (y114 ++ y117) (wrap64 (x4_1 + 1))) else (none)))) else (none))) = some r := by first | (rw [hy107]; with_reducible exact H) | (have H2_ := (Option.bind_some _ _).symm.trans H; rw [hy107]; with_reducible exact H2_) | (have H2_ := (Option.bind_some _ _).symm.trans H; with_reducible exact H2_) | with_reducible exact H | (rw [hy107]; exact H) | exact H
      have Ny107 := Aside0.mk hy107
      clear hy107
      replace H := Option.bind_eq_some_iff.mp H
      obtain ⟨t111, A170, H⟩ := H
      (try dsimp only at H)
      have A17 := Aside0.mk A170
      clear A170
      by_cases c18 : t111.length < 17592186044416
      rotate_left
      ·rw [if_neg c18] at H
       exact absurd H (by simp)
      rw [if_pos c18] at H
      have LMc18 := Aside0.mk c18
      clear c18
      obtain ⟨y114, hy114⟩ : ∃ y_ : List Int, y_ = (t111 ++ [x4_1]) := ⟨_, rfl⟩
      replace H : ((some (x3_1.drop (x5_2 : Int).toNat : List Int)).bind fun y117 => (if y114.length + y117.length < 17592186044416 then (aF_.l0 k2 l0 (y114 ++ y117) (wrap64 (x4_1 + 1))) else (none))) = some r := by first | (rw [hy114]; with_reducible exact H) | (have H2_ := (Option.bind_some _ _).symm.trans H; rw [hy114]; with_reducible exact H2_) | (have H2_ := (Option.bind_some _ _).symm.trans H; with_reducible exact H2_) | with_reducible exact H | (rw [hy114]; exact H) | exact H
      have Ny114 := Aside0.mk hy114
      clear hy114
      have c19b0 := eq_true (of_decide_eq_true (by assumption) : 0 ≤ x5_2)
      have c20b0 := eq_true (of_decide_eq_true (by assumption) : x5_2 ≤ (x3_1.length : Int))
      obtain ⟨y117, hy117⟩ : ∃ y_ : List Int, y_ = (x3_1.drop (x5_2 : Int).toNat) := ⟨_, rfl⟩
      replace H : (if y114.length + y117.length < 17592186044416 then (aF_.l0 k2 l0 (y114 ++ y117) (wrap64 (x4_1 + 1))) else (none)) = some r := by first | (rw [hy117]; with_reducible exact H) | (have H2_ := (Option.bind_some _ _).symm.trans H; rw [hy117]; with_reducible exact H2_) | (have H2_ := (Option.bind_some _ _).symm.trans H; with_reducible exact H2_) | with_reducible exact H | (rw [hy117]; exact H) | exact H
      have Ny117 := Aside0.mk hy117
      clear hy117
      by_cases c21 : y114.length + y117.length < 17592186044416
      rotate_left
      ·rw [if_neg c21] at H
       exact absurd H (by simp)
      rw [if_pos c21] at H
      have LMc21 := Aside0.mk c21
      clear c21
      obtain ⟨y121, hy121⟩ : ∃ y_ : List Int, y_ = (y114 ++ y117) := ⟨_, rfl⟩
      replace H : (aF_.l0 k2 l0 y121 (wrap64 (x4_1 + 1))) = some r := by first | (rw [hy121]; with_reducible exact H) | (have H2_ := (Option.bind_some _ _).symm.trans H; rw [hy121]; with_reducible exact H2_) | (have H2_ := (Option.bind_some _ _).symm.trans H; with_reducible exact H2_) | with_reducible exact H | (rw [hy121]; exact H) | exact H
      have Ny121 := Aside0.mk hy121
      clear hy121
      have H' := Aside0.mk H
      clear H
      have p104 : 0 ≤ ((ji7) : Int) := of_decide_eq_true (by assumption)
      have q104 : (ji7) < (x3_1.length : Int) := of_decide_eq_true (by assumption)
      obtain ⟨ad104, e104, hx104_0⟩ := Kd.bL_ (Kd.aD_ HO_3.out).2.2 (ji7) p104 q104
      cases e104
      replace p104 := eq_true p104
      replace q104 := eq_true q104
      have p105 : 0 ≤ ((rd x3_1 (ji7)) : Int) := of_decide_eq_true (by assumption)
      have q105 : (rd x3_1 (ji7)) < (l0.length : Int) := of_decide_eq_true (by assumption)
      obtain ⟨ad105, e105, hx105_0⟩ := Kd.bL_ HR0.out (rd x3_1 (ji7)) p105 q105
      cases e105
      replace hx105_0 := bu_ HB.out hx105_0
      replace p105 := eq_true p105
      replace q105 := eq_true q105
      have p106 : 0 ≤ (x4_1 : Int) := of_decide_eq_true (by assumption)
      have q106 : x4_1 < (l0.length : Int) := of_decide_eq_true (by assumption)
      obtain ⟨ad106, e106, hx106_0⟩ := Kd.bL_ HR0.out x4_1 p106 q106
      obtain rfl : ad105 = ad106 := (by injection e106)
      replace hx106_0 := bu_ HB.out hx106_0
      replace p106 := eq_true p106
      replace q106 := eq_true q106
      have q22 : (x5_2 : Int) ≤ ((x3_1.length : Int) : Int) := of_decide_eq_true (by assumption)
      obtain ⟨i022, hi022, _, hsz22, _⟩ := info_parts info2
      have hroom22 : x3_1.length ≤ co5 := (Kd.aD_ HO_3.out).2.1
      have hC22 : Kd.C (Kd.int .i64) _ (some ad104) x3_1.length x3_1 := (Kd.aD_ HO_3.out).2.2
      have hcut22 := cut_to (P := Try.prog) 22 2 .i64 Try.underlying22 hi022 (some ad104) x3_1.length co5 x5_2 (of_decide_eq_true (by assumption)) q22 hroom22
      have hr22 := Kd.C_take (m := (x5_2 : Int).toNat) hC22 (by omega)
      have hy22 : y107.length = (x5_2 : Int).toNat := (by rw [Ny107.out, List.length_take]; omega)
      rw [← Ny107.out] at hr22
      rw [← hy22] at hcut22
      have HR110 := Aside0.mk hr22
      have HC110 := Aside0.mk (show y107.length ≤ co5 from by omega)
      clear hr22 hC22 hroom22 hi022 hsz22
      have KY22 := Aside0.mk hy22
      clear hy22
      have KL22 := Aside0.mk (show (x5_2 : Int).toNat ≤ x3_1.length from by omega)
      replace q22 := eq_true q22
      go_wp2_with (first | (go_at_call 96; (with_reducible refine (bK_.calls _ _ y107 t111 _ ?side1 ?side2 A17.out).mono ?_); (case side1 => repeat (first | exact (by repeat (first | (with_reducible exact HR110.out) | (with_reducible first | refine Kd.bn_ ?_ _ | refine Kd.bm_ ?_ _ | refine Kd.bE_ ?_) | exact HR110.out)) | (with_reducible first | refine Kd.bn_ ?_ _ | refine Kd.bm_ ?_ _ | refine Kd.bE_ ?_))); (case side2 => exact HC110.out); rintro e w23 ⟨v112, rfl, ho0, hb⟩; have HO113 := Aside0.mk (Kd.bM_ (Kd.R_new' ho0 (Kd.R_lt (rz HO_3.out))) (aA_ (bz HB.out))); replace HO_3 := Aside0.mk (Kd.cA_ (rz HO_3.out) (Kd.cr_ ho0) hb); replace HR110 := Aside0.mk (Kd.bi_ (by repeat (first | (with_reducible exact HR110.out) | (with_reducible first | refine Kd.bn_ ?_ _ | refine Kd.bm_ ?_ _ | refine Kd.bE_ ?_) | exact HR110.out)) hb); replace HB := Aside0.mk (am_ (bz HB.out) hb); (try clear hb); (try clear ho0)) | ((with_reducible refine bx_ (b := .append) (xs := #[.tmp 39, .tmp 41]) rfl ?_); at_builtin; refine Kd.cD_ (Kd.int .i64) (w0 := w) w.heap.size rfl (.tmp 39) (.tmp 41) 22 2 (.int .i64 0) 8 rfl Try.underlying22 info2 rfl (by decide) (by omega) v112 t111 x4_1 [.int .i64 x4_1] (fun k_ => some k_ ≠ (.slice (some ad104) x3_1.length co5 : Value).ownBlock) (fun _ => False) rfl rfl ?aP (fun _ hk => hk.elim) ?aF ?aO ?aB ?aS ?aL ?_; (case aP => exact rfl); (case aB => exact (bz HB.out)); (case aF => exact (fun k_ hk => Kd.fresh' (Kd.R_lt (rz HO_3.out)) k_ hk)); (case aO => exact (rz (Kd.bp_ HO113.out (fun _ hk => hk.2)))); (case aS => exact (aA_ (bz HB.out))); (case aL => have := LMc18.out; omega); intro v115 w24 ho hb hg hat; rw [← Ny114.out] at ho; replace HB := Aside0.mk (hb); replace HR110 := Aside0.mk ((show Kd.C (Kd.int .i64) w24 (some ad104) y107.length y107 from by rw [Ny107.out]; exact Kd.C_take (m := (x5_2 : Int).toNat) ((Kd.aD_ (Kd.bC_ (ok := (fun _ => True)) (rz HO_3.out) hg hat)).2.2) KL22.out)); replace HO_3 := Aside0.mk (Kd.bC_ (ok := (fun _ => True)) (rz HO_3.out) hg hat); have HO116 := Aside0.mk (ho); clear HO113; clear ho hb hg hat; have q25 : (x5_2 : Int) ≤ ((x3_1.length : Int) : Int) := of_decide_eq_true (by assumption); obtain ⟨i025, hi025, _, hsz25, _⟩ := info_parts info2; have hroom25 : x3_1.length ≤ co5 := (Kd.aD_ HO_3.out).2.1; have hC25 : Kd.C (Kd.int .i64) _ (some ad104) x3_1.length x3_1 := (Kd.aD_ HO_3.out).2.2; have q025 : (0 : Int) ≤ (x5_2 : Int) := of_decide_eq_true (by assumption); have hcut25 := cut_from (P := Try.prog) 22 2 .i64 Try.underlying22 hi025 1 hsz25 (some ad104) x3_1.length co5 x5_2 q025 q25; have hr25 := Kd.C_drop (m := (x5_2 : Int).toNat) (c := co5) hC25 (by omega) hroom25; obtain ⟨A25, hA25⟩ : ∃ A1, A1 = (if co5 = (x5_2 : Int).toNat then (some ad104) else ((some ad104) : Option Addr).map (·.add ((x5_2 : Int).toNat * 1))) := ⟨_, rfl⟩; obtain ⟨c25, hc25⟩ : ∃ c1, c1 = co5 - (x5_2 : Int).toNat := ⟨_, rfl⟩; have hy25 : y117.length = x3_1.length - (x5_2 : Int).toNat := (by rw [Ny117.out, List.length_drop] <;> omega); rw [show (x3_1).drop (x5_2 : Int).toNat = y117 from Ny117.out.symm] at hr25; replace hr25 : Kd.C (Kd.int .i64) _ A25 y117.length y117 := (by rw [hA25]; exact hr25); rw [← hy25, ← hA25, ← hc25] at hcut25; have HR120 := Aside0.mk hr25; have HC120 := Aside0.mk (show y117.length ≤ c25 from by rw [hy25, hc25]; exact Nat.sub_le_sub_right hroom25 _); clear hr25 hC25 hroom25 hi025 hsz25 hc25; have KY25 := Aside0.mk hy25; have KA25 := Aside0.mk hA25; clear hy25 hA25; have KL25 := Aside0.mk (show (x5_2 : Int).toNat ≤ x3_1.length from by omega); replace q25 := eq_true q25) | ((with_reducible refine bx_ (b := .append) (xs := #[.tmp 43, .tmp 46]) rfl ?_); at_builtin; refine Kd.ci_ (Kd.int .i64) (w0 := w) w.heap.size rfl (.tmp 43) (.tmp 46) 22 2 (.int .i64 0) 8 rfl Try.underlying22 info2 rfl (by decide) (by omega) v115 y114 y117 _ _ _ (fun k_ => some k_ ≠ (.slice (some ad104) x3_1.length co5 : Value).ownBlock) (fun _ => False) rfl rfl ?aO ?aR (fun _ _ h => h) (fun _ h => h.elim) ?aF ?aB ?aS ?aL ?_; (case aR => repeat (first | exact (by repeat (first | (with_reducible exact HR120.out) | (with_reducible first | refine Kd.bn_ ?_ _ | refine Kd.bm_ ?_ _ | refine Kd.bE_ ?_) | exact HR120.out)) | (with_reducible first | refine Kd.bn_ ?_ _ | refine Kd.bm_ ?_ _ | refine Kd.bE_ ?_))); (case aB => exact (bz HB.out)); (case aF => exact (fun k_ hk => Kd.fresh' (Kd.R_lt (rz HO_3.out)) k_ hk)); (case aO => exact (rz HO116.out)); (case aS => exact (aA_ (bz HB.out))); (case aL => have := LMc21.out; omega); intro v122 w26 ho hb hg hat; rw [← Ny121.out] at ho; replace HB := Aside0.mk (hb); replace HR110 := Aside0.mk ((show Kd.C (Kd.int .i64) w26 (some ad104) y107.length y107 from by rw [Ny107.out]; exact Kd.C_take (m := (x5_2 : Int).toNat) ((Kd.aD_ (Kd.bC_ (ok := (fun _ => True)) (rz HO_3.out) hg hat)).2.2) KL22.out)); replace HR120 := Aside0.mk ((show Kd.C (Kd.int .i64) w26 A25 y117.length y117 from by rw [Ny117.out, KA25.out]; exact Kd.C_drop (m := (x5_2 : Int).toNat) (c := co5) ((Kd.aD_ (Kd.bC_ (ok := (fun _ => True)) (rz HO_3.out) hg hat)).2.2) KL25.out ((Kd.aD_ (Kd.bC_ (ok := (fun _ => True)) (rz HO_3.out) hg hat)).2.1))); replace HO_3 := Aside0.mk (Kd.bC_ (ok := (fun _ => True)) (rz HO_3.out) hg hat); have HO123 := Aside0.mk (ho); clear HO116; clear ho hb hg hat))
      repeat (go_quiet (first | (go_at_call 96; (with_reducible refine (bK_.calls _ _ y107 t111 _ ?side1 ?side2 A17.out).mono ?_); (case side1 => repeat (first | exact (by repeat (first | (with_reducible exact HR110.out) | (with_reducible first | refine Kd.bn_ ?_ _ | refine Kd.bm_ ?_ _ | refine Kd.bE_ ?_) | exact HR110.out)) | (with_reducible first | refine Kd.bn_ ?_ _ | refine Kd.bm_ ?_ _ | refine Kd.bE_ ?_))); (case side2 => exact HC110.out); rintro e w23 ⟨v112, rfl, ho0, hb⟩; have HO113 := Aside0.mk (Kd.bM_ (Kd.R_new' ho0 (Kd.R_lt (rz HO_3.out))) (aA_ (bz HB.out))); replace HO_3 := Aside0.mk (Kd.cA_ (rz HO_3.out) (Kd.cr_ ho0) hb); replace HR110 := Aside0.mk (Kd.bi_ (by repeat (first | (with_reducible exact HR110.out) | (with_reducible first | refine Kd.bn_ ?_ _ | refine Kd.bm_ ?_ _ | refine Kd.bE_ ?_) | exact HR110.out)) hb); replace HB := Aside0.mk (am_ (bz HB.out) hb); (try clear hb); (try clear ho0)) | ((with_reducible refine bx_ (b := .append) (xs := #[.tmp 39, .tmp 41]) rfl ?_); at_builtin; refine Kd.cD_ (Kd.int .i64) (w0 := w) w.heap.size rfl (.tmp 39) (.tmp 41) 22 2 (.int .i64 0) 8 rfl Try.underlying22 info2 rfl (by decide) (by omega) v112 t111 x4_1 [.int .i64 x4_1] (fun k_ => some k_ ≠ (.slice (some ad104) x3_1.length co5 : Value).ownBlock) (fun _ => False) rfl rfl ?aP (fun _ hk => hk.elim) ?aF ?aO ?aB ?aS ?aL ?_; (case aP => exact rfl); (case aB => exact (bz HB.out)); (case aF => exact (fun k_ hk => Kd.fresh' (Kd.R_lt (rz HO_3.out)) k_ hk)); (case aO => exact (rz (Kd.bp_ HO113.out (fun _ hk => hk.2)))); (case aS => exact (aA_ (bz HB.out))); (case aL => have := LMc18.out; omega); intro v115 w24 ho hb hg hat; rw [← Ny114.out] at ho; replace HB := Aside0.mk (hb); replace HR110 := Aside0.mk ((show Kd.C (Kd.int .i64) w24 (some ad104) y107.length y107 from by rw [Ny107.out]; exact Kd.C_take (m := (x5_2 : Int).toNat) ((Kd.aD_ (Kd.bC_ (ok := (fun _ => True)) (rz HO_3.out) hg hat)).2.2) KL22.out)); replace HO_3 := Aside0.mk (Kd.bC_ (ok := (fun _ => True)) (rz HO_3.out) hg hat); have HO116 := Aside0.mk (ho); clear HO113; clear ho hb hg hat; have q25 : (x5_2 : Int) ≤ ((x3_1.length : Int) : Int) := of_decide_eq_true (by assumption); obtain ⟨i025, hi025, _, hsz25, _⟩ := info_parts info2; have hroom25 : x3_1.length ≤ co5 := (Kd.aD_ HO_3.out).2.1; have hC25 : Kd.C (Kd.int .i64) _ (some ad104) x3_1.length x3_1 := (Kd.aD_ HO_3.out).2.2; have q025 : (0 : Int) ≤ (x5_2 : Int) := of_decide_eq_true (by assumption); have hcut25 := cut_from (P := Try.prog) 22 2 .i64 Try.underlying22 hi025 1 hsz25 (some ad104) x3_1.length co5 x5_2 q025 q25; have hr25 := Kd.C_drop (m := (x5_2 : Int).toNat) (c := co5) hC25 (by omega) hroom25; obtain ⟨A25, hA25⟩ : ∃ A1, A1 = (if co5 = (x5_2 : Int).toNat then (some ad104) else ((some ad104) : Option Addr).map (·.add ((x5_2 : Int).toNat * 1))) := ⟨_, rfl⟩; obtain ⟨c25, hc25⟩ : ∃ c1, c1 = co5 - (x5_2 : Int).toNat := ⟨_, rfl⟩; have hy25 : y117.length = x3_1.length - (x5_2 : Int).toNat := (by rw [Ny117.out, List.length_drop] <;> omega); rw [show (x3_1).drop (x5_2 : Int).toNat = y117 from Ny117.out.symm] at hr25; replace hr25 : Kd.C (Kd.int .i64) _ A25 y117.length y117 := (by rw [hA25]; exact hr25); rw [← hy25, ← hA25, ← hc25] at hcut25; have HR120 := Aside0.mk hr25; have HC120 := Aside0.mk (show y117.length ≤ c25 from by rw [hy25, hc25]; exact Nat.sub_le_sub_right hroom25 _); clear hr25 hC25 hroom25 hi025 hsz25 hc25; have KY25 := Aside0.mk hy25; have KA25 := Aside0.mk hA25; clear hy25 hA25; have KL25 := Aside0.mk (show (x5_2 : Int).toNat ≤ x3_1.length from by omega); replace q25 := eq_true q25) | ((with_reducible refine bx_ (b := .append) (xs := #[.tmp 43, .tmp 46]) rfl ?_); at_builtin; refine Kd.ci_ (Kd.int .i64) (w0 := w) w.heap.size rfl (.tmp 43) (.tmp 46) 22 2 (.int .i64 0) 8 rfl Try.underlying22 info2 rfl (by decide) (by omega) v115 y114 y117 _ _ _ (fun k_ => some k_ ≠ (.slice (some ad104) x3_1.length co5 : Value).ownBlock) (fun _ => False) rfl rfl ?aO ?aR (fun _ _ h => h) (fun _ h => h.elim) ?aF ?aB ?aS ?aL ?_; (case aR => repeat (first | exact (by repeat (first | (with_reducible exact HR120.out) | (with_reducible first | refine Kd.bn_ ?_ _ | refine Kd.bm_ ?_ _ | refine Kd.bE_ ?_) | exact HR120.out)) | (with_reducible first | refine Kd.bn_ ?_ _ | refine Kd.bm_ ?_ _ | refine Kd.bE_ ?_))); (case aB => exact (bz HB.out)); (case aF => exact (fun k_ hk => Kd.fresh' (Kd.R_lt (rz HO_3.out)) k_ hk)); (case aO => exact (rz HO116.out)); (case aS => exact (aA_ (bz HB.out))); (case aL => have := LMc21.out; omega); intro v122 w26 ho hb hg hat; rw [← Ny121.out] at ho; replace HB := Aside0.mk (hb); replace HR110 := Aside0.mk ((show Kd.C (Kd.int .i64) w26 (some ad104) y107.length y107 from by rw [Ny107.out]; exact Kd.C_take (m := (x5_2 : Int).toNat) ((Kd.aD_ (Kd.bC_ (ok := (fun _ => True)) (rz HO_3.out) hg hat)).2.2) KL22.out)); replace HR120 := Aside0.mk ((show Kd.C (Kd.int .i64) w26 A25 y117.length y117 from by rw [Ny117.out, KA25.out]; exact Kd.C_drop (m := (x5_2 : Int).toNat) (c := co5) ((Kd.aD_ (Kd.bC_ (ok := (fun _ => True)) (rz HO_3.out) hg hat)).2.2) KL25.out ((Kd.aD_ (Kd.bC_ (ok := (fun _ => True)) (rz HO_3.out) hg hat)).2.1))); replace HO_3 := Aside0.mk (Kd.bC_ (ok := (fun _ => True)) (rz HO_3.out) hg hat); have HO123 := Aside0.mk (ho); clear HO116; clear ho hb hg hat)); try go_wp2_with (first | (go_at_call 96; (with_reducible refine (bK_.calls _ _ y107 t111 _ ?side1 ?side2 A17.out).mono ?_); (case side1 => repeat (first | exact (by repeat (first | (with_reducible exact HR110.out) | (with_reducible first | refine Kd.bn_ ?_ _ | refine Kd.bm_ ?_ _ | refine Kd.bE_ ?_) | exact HR110.out)) | (with_reducible first | refine Kd.bn_ ?_ _ | refine Kd.bm_ ?_ _ | refine Kd.bE_ ?_))); (case side2 => exact HC110.out); rintro e w23 ⟨v112, rfl, ho0, hb⟩; have HO113 := Aside0.mk (Kd.bM_ (Kd.R_new' ho0 (Kd.R_lt (rz HO_3.out))) (aA_ (bz HB.out))); replace HO_3 := Aside0.mk (Kd.cA_ (rz HO_3.out) (Kd.cr_ ho0) hb); replace HR110 := Aside0.mk (Kd.bi_ (by repeat (first | (with_reducible exact HR110.out) | (with_reducible first | refine Kd.bn_ ?_ _ | refine Kd.bm_ ?_ _ | refine Kd.bE_ ?_) | exact HR110.out)) hb); replace HB := Aside0.mk (am_ (bz HB.out) hb); (try clear hb); (try clear ho0)) | ((with_reducible refine bx_ (b := .append) (xs := #[.tmp 39, .tmp 41]) rfl ?_); at_builtin; refine Kd.cD_ (Kd.int .i64) (w0 := w) w.heap.size rfl (.tmp 39) (.tmp 41) 22 2 (.int .i64 0) 8 rfl Try.underlying22 info2 rfl (by decide) (by omega) v112 t111 x4_1 [.int .i64 x4_1] (fun k_ => some k_ ≠ (.slice (some ad104) x3_1.length co5 : Value).ownBlock) (fun _ => False) rfl rfl ?aP (fun _ hk => hk.elim) ?aF ?aO ?aB ?aS ?aL ?_; (case aP => exact rfl); (case aB => exact (bz HB.out)); (case aF => exact (fun k_ hk => Kd.fresh' (Kd.R_lt (rz HO_3.out)) k_ hk)); (case aO => exact (rz (Kd.bp_ HO113.out (fun _ hk => hk.2)))); (case aS => exact (aA_ (bz HB.out))); (case aL => have := LMc18.out; omega); intro v115 w24 ho hb hg hat; rw [← Ny114.out] at ho; replace HB := Aside0.mk (hb); replace HR110 := Aside0.mk ((show Kd.C (Kd.int .i64) w24 (some ad104) y107.length y107 from by rw [Ny107.out]; exact Kd.C_take (m := (x5_2 : Int).toNat) ((Kd.aD_ (Kd.bC_ (ok := (fun _ => True)) (rz HO_3.out) hg hat)).2.2) KL22.out)); replace HO_3 := Aside0.mk (Kd.bC_ (ok := (fun _ => True)) (rz HO_3.out) hg hat); have HO116 := Aside0.mk (ho); clear HO113; clear ho hb hg hat; have q25 : (x5_2 : Int) ≤ ((x3_1.length : Int) : Int) := of_decide_eq_true (by assumption); obtain ⟨i025, hi025, _, hsz25, _⟩ := info_parts info2; have hroom25 : x3_1.length ≤ co5 := (Kd.aD_ HO_3.out).2.1; have hC25 : Kd.C (Kd.int .i64) _ (some ad104) x3_1.length x3_1 := (Kd.aD_ HO_3.out).2.2; have q025 : (0 : Int) ≤ (x5_2 : Int) := of_decide_eq_true (by assumption); have hcut25 := cut_from (P := Try.prog) 22 2 .i64 Try.underlying22 hi025 1 hsz25 (some ad104) x3_1.length co5 x5_2 q025 q25; have hr25 := Kd.C_drop (m := (x5_2 : Int).toNat) (c := co5) hC25 (by omega) hroom25; obtain ⟨A25, hA25⟩ : ∃ A1, A1 = (if co5 = (x5_2 : Int).toNat then (some ad104) else ((some ad104) : Option Addr).map (·.add ((x5_2 : Int).toNat * 1))) := ⟨_, rfl⟩; obtain ⟨c25, hc25⟩ : ∃ c1, c1 = co5 - (x5_2 : Int).toNat := ⟨_, rfl⟩; have hy25 : y117.length = x3_1.length - (x5_2 : Int).toNat := (by rw [Ny117.out, List.length_drop] <;> omega); rw [show (x3_1).drop (x5_2 : Int).toNat = y117 from Ny117.out.symm] at hr25; replace hr25 : Kd.C (Kd.int .i64) _ A25 y117.length y117 := (by rw [hA25]; exact hr25); rw [← hy25, ← hA25, ← hc25] at hcut25; have HR120 := Aside0.mk hr25; have HC120 := Aside0.mk (show y117.length ≤ c25 from by rw [hy25, hc25]; exact Nat.sub_le_sub_right hroom25 _); clear hr25 hC25 hroom25 hi025 hsz25 hc25; have KY25 := Aside0.mk hy25; have KA25 := Aside0.mk hA25; clear hy25 hA25; have KL25 := Aside0.mk (show (x5_2 : Int).toNat ≤ x3_1.length from by omega); replace q25 := eq_true q25) | ((with_reducible refine bx_ (b := .append) (xs := #[.tmp 43, .tmp 46]) rfl ?_); at_builtin; refine Kd.ci_ (Kd.int .i64) (w0 := w) w.heap.size rfl (.tmp 43) (.tmp 46) 22 2 (.int .i64 0) 8 rfl Try.underlying22 info2 rfl (by decide) (by omega) v115 y114 y117 _ _ _ (fun k_ => some k_ ≠ (.slice (some ad104) x3_1.length co5 : Value).ownBlock) (fun _ => False) rfl rfl ?aO ?aR (fun _ _ h => h) (fun _ h => h.elim) ?aF ?aB ?aS ?aL ?_; (case aR => repeat (first | exact (by repeat (first | (with_reducible exact HR120.out) | (with_reducible first | refine Kd.bn_ ?_ _ | refine Kd.bm_ ?_ _ | refine Kd.bE_ ?_) | exact HR120.out)) | (with_reducible first | refine Kd.bn_ ?_ _ | refine Kd.bm_ ?_ _ | refine Kd.bE_ ?_))); (case aB => exact (bz HB.out)); (case aF => exact (fun k_ hk => Kd.fresh' (Kd.R_lt (rz HO_3.out)) k_ hk)); (case aO => exact (rz HO116.out)); (case aS => exact (aA_ (bz HB.out))); (case aL => have := LMc21.out; omega); intro v122 w26 ho hb hg hat; rw [← Ny121.out] at ho; replace HB := Aside0.mk (hb); replace HR110 := Aside0.mk ((show Kd.C (Kd.int .i64) w26 (some ad104) y107.length y107 from by rw [Ny107.out]; exact Kd.C_take (m := (x5_2 : Int).toNat) ((Kd.aD_ (Kd.bC_ (ok := (fun _ => True)) (rz HO_3.out) hg hat)).2.2) KL22.out)); replace HR120 := Aside0.mk ((show Kd.C (Kd.int .i64) w26 A25 y117.length y117 from by rw [Ny117.out, KA25.out]; exact Kd.C_drop (m := (x5_2 : Int).toNat) (c := co5) ((Kd.aD_ (Kd.bC_ (ok := (fun _ => True)) (rz HO_3.out) hg hat)).2.2) KL25.out ((Kd.aD_ (Kd.bC_ (ok := (fun _ => True)) (rz HO_3.out) hg hat)).2.1))); replace HO_3 := Aside0.mk (Kd.bC_ (ok := (fun _ => True)) (rz HO_3.out) hg hat); have HO123 := Aside0.mk (ho); clear HO116; clear ho hb hg hat)))
      go_roundg k2
      case measure => have := HK1.out; have := HK2.out; omega
      case rel => exact ⟨(y121), (wrap64 (x4_1 + 1)), (by first | rfl | (simp; done) | (simp [*]; done)), H', ⟨by have := HK1.out; have := HK2.out; omega⟩, ⟨rz (Kd.bp_ HO123.out (fun _ hk => trivial))⟩, ⟨bz HB.out⟩⟩
     rw [if_pos c14] at H
     have c14b0 : decide ((rd l0 (rd x3_1 (ji7))) < (rd l0 x4_1)) = true := decide_eq_true c14
     clear c14
     have H' := Aside0.mk H
     clear H
     have p104 : 0 ≤ ((ji7) : Int) := of_decide_eq_true (by assumption)
     have q104 : (ji7) < (x3_1.length : Int) := of_decide_eq_true (by assumption)
     obtain ⟨ad104, e104, hx104_0⟩ := Kd.bL_ (Kd.aD_ HO_3.out).2.2 (ji7) p104 q104
     cases e104
     replace p104 := eq_true p104
     replace q104 := eq_true q104
     have p105 : 0 ≤ ((rd x3_1 (ji7)) : Int) := of_decide_eq_true (by assumption)
     have q105 : (rd x3_1 (ji7)) < (l0.length : Int) := of_decide_eq_true (by assumption)
     obtain ⟨ad105, e105, hx105_0⟩ := Kd.bL_ HR0.out (rd x3_1 (ji7)) p105 q105
     cases e105
     replace hx105_0 := bu_ HB.out hx105_0
     replace p105 := eq_true p105
     replace q105 := eq_true q105
     have p106 : 0 ≤ (x4_1 : Int) := of_decide_eq_true (by assumption)
     have q106 : x4_1 < (l0.length : Int) := of_decide_eq_true (by assumption)
     obtain ⟨ad106, e106, hx106_0⟩ := Kd.bL_ HR0.out x4_1 p106 q106
     obtain rfl : ad105 = ad106 := (by injection e106)
     replace hx106_0 := bu_ HB.out hx106_0
     replace p106 := eq_true p106
     replace q106 := eq_true q106
     go_wp2
     repeat (go_quiet (fail); try go_wp2)
     go_roundg k2
     case measure => have := HK1.out; have := HK2.out; omega
     case rel => exact ⟨(ji7), (by first | rfl | (simp; done) | (simp only [← hji7] <;> (first | rfl | simp)) | (simp [*]; done)), H', ⟨by have := HK1.out; have := HK2.out; omega⟩, ⟨rz HO_3.out⟩, ⟨bz HB.out⟩⟩
mutual
def aw_.j0 : Nat → List (S28) → Bool → ByteArray → List Int → Option (List Int × Int)
 | 0, _, _, _, _ => none
 | k + 1, x0, x14, x102000, x102001 => if x14 = true then (some (([] : List Int), 1)) else (aw_.l0 k x0 (([] : List Int)) 0 x102000 x102001)
def aw_.l0 : Nat → List (S28) → List Int → Int → ByteArray → List Int → Option (List Int × Int)
 | 0, _, _, _, _, _ => none
 | k + 1, x0, x6, x7, x102000, x102001 => if x7 < (x0.length : Int) then (if 0 ≤ x7 then ((bj_.f k [af_ x0 x7] [(⟨x102000, x102001⟩ : S28)]).bind fun t108 => (if x6.length < 17592186044416 then (aw_.l0 k x0 (x6 ++ [wrap64 (-t108)]) (wrap64 (x7 + 1)) x102000 x102001) else (none))) else (none)) else ((aF_.f k x6).bind fun t112 => (some (t112, 0)))
end
def aw_.f (k : Nat) (l0 : List (S28)) (a1_0 : ByteArray) (l1_1 : List Int) : Option (List Int × Int) := (aV_.f k l0).bind fun t102 => (if t102 = true then ((aB_.f k [(⟨a1_0, l1_1⟩ : S28)]).bind fun t103 => (aw_.j0 k l0 (!t103) a1_0 l1_1)) else (aw_.j0 k l0 true a1_0 l1_1))
set_option maxHeartbeats 8000000 in
set_option maxRecDepth 100000 in
theorem aw_.calls (k : Nat) (A0 : Option Addr) (c0 : Nat) (l0 : List (S28)) (a1_0 : ByteArray) (A1_1 : Option Addr) (c1_1 : Nat) (l1_1 : List Int) (r1 : List Int) (r2 : Int) (w : World) (hr0 : Kd.C k28 w A0 l0.length l0) (hc0 : l0.length ≤ c0) (hr1_1 : Kd.C (Kd.int .i64) w A1_1 l1_1.length l1_1) (hc1_1 : l1_1.length ≤ c1_1) (h : aw_.f k l0 a1_0 l1_1 = some (r1, r2)) :
  Calls Try.prog 44 #[.slice A0 l0.length c0, .agg #[.string a1_0, .slice A1_1 l1_1.length c1_1]] w fun e w' => ∃ v0_ : Value, e = .returned (.tuple #[v0_, .int .i64 r2]) ∧ Kd.R (Kd.int .i64) 2 w' w.heap.size (fun _ => True) v0_ r1 ∧ Below w.heap.size w w' := by
 have hu28 := Try.underlying28
 have HR0 := Aside0.mk hr0
 have HC0 := Aside0.mk hc0
 clear hr0 hc0
 have HR1_1 := Aside0.mk hr1_1
 have HC1_1 := Aside0.mk hc1_1
 clear hr1_1 hc1_1
 have HB := Aside0.mk (Below.refl w.heap.size w)
 have H : ((aV_.f k l0).bind fun t102 => (if t102 = true then ((aB_.f k [(⟨a1_0, l1_1⟩ : S28)]).bind fun t103 => (aw_.j0 k l0 (!t103) a1_0 l1_1)) else (aw_.j0 k l0 true a1_0 l1_1))) = some (r1, r2) := h
 clear h
 have HC3 := Aside0.mk H
 clear H
 go_enter Try.func44, Try.ntmps44
 go_upto_region 1 with (first | ((with_reducible refine bg_ (N := 3) rfl ?_); refine bt_ ?hg (N := 3) ?hd (cs := #[.string a1_0, .slice A1_1 l1_1.length c1_1]) (t := 28) ?hr ?_; (case hd => rfl); (case hg => rfl); (case hr => (go_simp; try rfl)); intro gb101 hg w4 hbox hb; have BK101 := Aside0.mk (hbox); have GW101 := Aside0.mk ((by rw [hg]; exact (aA_ (bz HB.out)) : w.heap.size ≤ gb101)); have GE101 := GW101; replace HB := Aside0.mk (am_ (bz HB.out) hb); clear hb hbox hg))
 (try simp only [Act.put, lsa_, ls0_, ls1_])
 go_cut [14] (fun v14 wc => ∃ (kq : Nat) (x14_2 : Bool), v14 = .bool x14_2 ∧ Aside0 (aw_.j0 kq l0 x14_2 a1_0 l1_1 = some (r1, r2)) ∧ Aside0 (kq ≤ k) ∧ Aside0 (wc.heap[gb101]? = some (.cells #[.string a1_0, (.slice A1_1 l1_1.length c1_1)] 28 (0, 0))) ∧ Aside0 (Below w.heap.size w wc))
 case first =>
  have H := HC3.out
  clear HC3
  replace H := Option.bind_eq_some_iff.mp H
  obtain ⟨t102, A50, H⟩ := H
  (try dsimp only at H)
  have A5 := Aside0.mk A50
  clear A50
  by_cases c6 : t102 = true
  rotate_left
  ·replace c6 := Bool.eq_false_iff.mpr c6
   subst c6
   have H1 : (aw_.j0 k l0 true a1_0 l1_1) = some (r1, r2) := by rw [if_neg (show ¬ (false = true) by decide)] at H; exact H
   clear H
   have H := H1
   clear H1
   have H' := Aside0.mk H
   clear H
   go_wp2_with (first | ((with_reducible refine av_ (f := 54) rfl ?_); refine bo_ (some 9) rfl rfl Try.func54 (by kernel_rfl) rfl #[.slice A0 l0.length c0] rfl (by first | rfl | (simp only [lma_, lmc_, lmn_]; first | done | rfl)) ?_; (with_reducible refine (aV_.calls k _ _ l0 false _ ?side1 ?side2 A5.out).mono ?_); (case side1 => exact cz (Kd.bi_ HR0.out HB.out)); (case side2 => exact HC0.out); rintro e w' ⟨rfl, ⟨nd, rfl⟩⟩; refine ⟨_, rfl, ?_⟩))
   go_meet
   case rel => exact ⟨_, (true), (by first | rfl | (simp; done) | (simp [*]; done)), H', ⟨by first | omega | exact Nat.le_refl _⟩, ⟨by (with_reducible repeat (first | refine aK_ ?_ _ | refine ay_ ?_ | refine aI_ ?_ _)); exact BK101.out⟩, ⟨bq⟩⟩
  subst c6
  have H1 : ((aB_.f k [(⟨a1_0, l1_1⟩ : S28)]).bind fun t103 => (aw_.j0 k l0 (!t103) a1_0 l1_1)) = some (r1, r2) := by rw [if_pos rfl] at H; exact H
  clear H
  have H := H1
  clear H1
  replace H := Option.bind_eq_some_iff.mp H
  obtain ⟨t103, A70, H⟩ := H
  (try dsimp only at H)
  have A7 := Aside0.mk A70
  clear A70
  have H' := Aside0.mk H
  clear H
  go_wp2_with (first | ((with_reducible refine av_ (f := 54) rfl ?_); refine bo_ (some 9) rfl rfl Try.func54 (by kernel_rfl) rfl #[.slice A0 l0.length c0] rfl (by first | rfl | (simp only [lma_, lmc_, lmn_]; first | done | rfl)) ?_; (with_reducible refine (aV_.calls k _ _ l0 true _ ?side1 ?side2 A5.out).mono ?_); (case side1 => exact cz (Kd.bi_ HR0.out HB.out)); (case side2 => exact HC0.out); rintro e w' ⟨rfl, ⟨nd, rfl⟩⟩; refine ⟨_, rfl, ?_⟩) | (go_at_call 50; (with_reducible refine (aB_.calls k _ [(⟨a1_0, l1_1⟩ : S28)] t103 _ ?side1 A7.out).mono ?_); (case side1 => exact (RPW.C_blk (cs := [.string a1_0, .slice A1_1 l1_1.length c1_1]) (t := 28) (g := gb101) (kz BK101.out) (k28_mk _ (⟨a1_0, l1_1⟩ : S28) (by exact HC1_1.out) (by repeat (first | exact (Kd.bi_ HR1_1.out (bq)) | (with_reducible first | refine Kd.bn_ ?_ _ | refine Kd.bm_ ?_ _ | refine Kd.bE_ ?_)))))); rintro e w' ⟨rfl, ⟨nd, rfl⟩⟩))
  go_meet
  case rel => exact ⟨_, (!t103), (by first | rfl | (simp; done) | (simp [*]; done)), H', ⟨by first | omega | exact Nat.le_refl _⟩, ⟨by (with_reducible repeat (first | refine aK_ ?_ _ | refine ay_ ?_ | refine aI_ ?_ _)); exact BK101.out⟩, ⟨bq⟩⟩
 case rest =>
  clear HC3
  obtain ⟨kq, x14_2, rfl, HA, HJ2, BK101, HB⟩ := hcut
  cases kq with
  | zero => exact absurd HA.out (by simp [aw_.j0])
  | succ kj2 =>
   have H := HA.out
   clear HA
   simp only [aw_.j0] at H
   by_cases c8 : x14_2 = true
   rotate_left
   ·replace c8 := Bool.eq_false_iff.mpr c8
    subst c8
    have H1 : (aw_.l0 kj2 l0 (([] : List Int)) 0 a1_0 l1_1) = some (r1, r2) := by rw [if_neg (show ¬ (false = true) by decide)] at H; exact H
    clear H
    have H := H1
    clear H1
    obtain ⟨y104, hy104⟩ : ∃ y_ : List Int, y_ = (([] : List Int)) := ⟨_, rfl⟩
    replace H : (aw_.l0 kj2 l0 y104 0 a1_0 l1_1) = some (r1, r2) := by first | (rw [hy104]; with_reducible exact H) | (have H2_ := (Option.bind_some _ _).symm.trans H; rw [hy104]; with_reducible exact H2_) | (have H2_ := (Option.bind_some _ _).symm.trans H; with_reducible exact H2_) | with_reducible exact H | (rw [hy104]; exact H) | exact H
    have Ny104 := Aside0.mk hy104
    clear hy104
    have H' := Aside0.mk H
    clear H
    go_wp2_with (first | ((with_reducible refine bg_ (N := 15) rfl ?_); refine Kd.R_lit (Kd.int .i64) _ 2 ?hg (N := 15) ?hd (xs := ([] : List Int)) (inner := []) (ok := fun _ => True) (okp := fun _ => True) ?hr ?hp (fun _ hk => hk) trivial (Below.refl _ _) (Nat.le_refl _) (by simp) ?_; (case hd => rfl); (case hg => rfl); (case hr => (go_simp; try rfl)); (case hp => exact (Reps.none _ _)); intro v105 w9 ho10 hb hg_ hnew_; clear hg_ hnew_; (first | rw [← Ny104.out] at ho10 | (simp only [Int.reduceToNat] at ho10; rw [← Ny104.out] at ho10)); have HO106 := Aside0.mk (Kd.bM_ ho10 (aA_ (bq))); replace BK101 := Aside0.mk (ag_ (kz BK101.out) hb); replace HB := Aside0.mk (am_ (bq) hb); clear hb ho10))
    (try simp only [Act.put, lsa_, ls0_, ls1_])
    go_loopg [6, 7] kj2 (fun kq v6 v7 w' => ∃ (x6_2 : List Int) (x7_2 : Int), v7 = .int .i64 x7_2 ∧ Aside0 (aw_.l0 kq l0 x6_2 x7_2 a1_0 l1_1 = some (r1, r2)) ∧ Aside0 (kq ≤ kj2) ∧ Aside0 (Kd.R (Kd.int .i64) 2 w' w.heap.size (fun _ => True) v6 x6_2) ∧ Aside0 (w'.heap[gb101]? = some (.cells #[.string a1_0, (.slice A1_1 l1_1.length c1_1)] 28 (0, 0))) ∧ Aside0 (Below w.heap.size w w'))
    case atStart => exact ⟨(y104), (0), (by first | rfl | (simp; done) | (simp [*]; done)), H', ⟨Nat.le_refl _⟩, ⟨rz HO106.out⟩, ⟨by (with_reducible repeat (first | refine aK_ ?_ _ | refine ay_ ?_ | refine aI_ ?_ _)); exact BK101.out⟩, ⟨bq⟩⟩
    case round =>
     clear H'
     obtain ⟨x6_2, x7_2, rfl, HA, HK2, HO_6, BK101, HB⟩ := hrel
     cases gk with
     | zero => exact absurd HA.out (by simp [aw_.l0])
     | succ k2 =>
      have H := HA.out
      clear HA
      simp only [aw_.l0] at H
      by_cases c11 : x7_2 < (l0.length : Int)
      rotate_left
      ·rw [if_neg c11] at H
       have c11b0 : decide (x7_2 < (l0.length : Int)) = false := decide_eq_false c11
       clear c11
       replace H := Option.bind_eq_some_iff.mp H
       obtain ⟨t112, A160, H⟩ := H
       (try dsimp only at H)
       have A16 := Aside0.mk A160
       clear A160
       simp only [Option.some.injEq, Prod.mk.injEq] at H
       obtain ⟨rfl, rfl⟩ := H
       obtain ⟨Ao17, co17, eo17⟩ := Kd.bP_ HO_6.out
       subst eo17
       go_wp2_with (first | ((with_reducible refine av_ (f := 74) rfl ?_); refine bo_ (some 31) rfl rfl Try.func74 (by kernel_rfl) rfl #[.slice Ao17 x6_2.length co17] rfl (by first | rfl | (simp only [lma_, lmc_, lmn_]; first | done | rfl)) ?_; (with_reducible refine (aF_.calls k2 _ _ x6_2 t112 _ ?side1 ?side2 A16.out).mono ?_); (case side1 => exact cz (Kd.aD_ HO_6.out).2.2); (case side2 => exact (Kd.aD_ HO_6.out).2.1); rintro e w18 ⟨v113, rfl, ho0, hb⟩; refine ⟨_, rfl, ?_⟩; have HO114 := Aside0.mk (Kd.bM_ (Kd.R_new' ho0 (Kd.R_lt (rz HO_6.out))) (aA_ (bq))); replace HO_6 := Aside0.mk (Kd.cA_ (rz HO_6.out) (Kd.cr_ ho0) hb); replace BK101 := Aside0.mk (ag_ (kz BK101.out) hb); replace HB := Aside0.mk (am_ (bq) hb); (try clear hb); (try clear ho0)))
       go_ret2
       exact ⟨_, by first | rfl | (simp [*, aH_, aG_] <;> rfl), rz (Kd.bp_ HO114.out (fun _ hk => trivial)), bq⟩
      rw [if_pos c11] at H
      have c11b0 : decide (x7_2 < (l0.length : Int)) = true := decide_eq_true c11
      clear c11
      by_cases c12 : 0 ≤ x7_2
      rotate_left
      ·rw [if_neg c12] at H
       exact absurd H (by simp)
      rw [if_pos c12] at H
      have c12b0 : decide (0 ≤ x7_2) = true := decide_eq_true c12
      clear c12
      replace H := Option.bind_eq_some_iff.mp H
      obtain ⟨t108, A130, H⟩ := H
      (try dsimp only at H)
      have A13 := Aside0.mk A130
      clear A130
      by_cases c14 : x6_2.length < 17592186044416
      rotate_left
      ·rw [if_neg c14] at H
       exact absurd H (by simp)
      rw [if_pos c14] at H
      have LMc14 := Aside0.mk c14
      clear c14
      obtain ⟨y109, hy109⟩ : ∃ y_ : List Int, y_ = (x6_2 ++ [wrap64 (-t108)]) := ⟨_, rfl⟩
      replace H : (aw_.l0 k2 l0 y109 (wrap64 (x7_2 + 1)) a1_0 l1_1) = some (r1, r2) := by first | (rw [hy109]; with_reducible exact H) | (have H2_ := (Option.bind_some _ _).symm.trans H; rw [hy109]; with_reducible exact H2_) | (have H2_ := (Option.bind_some _ _).symm.trans H; with_reducible exact H2_) | with_reducible exact H | (rw [hy109]; exact H) | exact H
      have Ny109 := Aside0.mk hy109
      clear hy109
      have H' := Aside0.mk H
      clear H
      have p107 : 0 ≤ (x7_2 : Int) := of_decide_eq_true (by assumption)
      have q107 : x7_2 < (l0.length : Int) := of_decide_eq_true (by assumption)
      obtain ⟨ad107, A107_1, c107_1, e107, hx107_0, hx107_1, hl107_1, hi107_1⟩ := bY_ HR0.out x7_2 p107 q107
      cases e107
      replace hx107_0 := bu_ HB.out hx107_0
      replace hx107_1 := bu_ HB.out hx107_1
      have HR107_1 := Aside0.mk hi107_1
      have HC107_1 := Aside0.mk hl107_1
      clear hi107_1 hl107_1
      replace p107 := eq_true p107
      replace q107 := eq_true q107
      go_wp2_with (first | ((with_reducible refine av_ (f := 51) rfl ?_); refine bo_ (some 26) rfl rfl Try.func51 (by kernel_rfl) rfl #[.pointer (some ((ad107.add ((x7_2 : Int).toNat * 2)).add 0)), .pointer (some (Addr.add ⟨gb101, 0, none⟩ 0))] rfl (by first | rfl | (simp only [lma_, lmc_, lmn_]; first | done | rfl)) ?_; (with_reducible refine (bj_.calls k2 _ [af_ l0 x7_2] _ [(⟨a1_0, l1_1⟩ : S28)] t108 _ ?side1 ?side2 A13.out).mono ?_); (case side1 => exact (RPW.C_elem (ad := ad107) (n := l0.length) (xs := l0) z28 (i := x7_2) (by first | exact of_eq_true p107 | exact p107 | omega) (by first | exact of_eq_true q107 | exact q107 | omega) (by first | exact (Kd.bi_ HR0.out HB.out) | exact cz (Kd.bi_ HR0.out HB.out)))); (case side2 => exact (RPW.C_blk (cs := [.string a1_0, .slice A1_1 l1_1.length c1_1]) (t := 28) (g := gb101) (kz BK101.out) (k28_mk _ (⟨a1_0, l1_1⟩ : S28) (by exact HC1_1.out) (by first | exact (Kd.bi_ HR1_1.out HB.out) | exact cz (Kd.bi_ HR1_1.out HB.out))))); rintro e w' ⟨rfl, ⟨nd, rfl⟩⟩; refine ⟨_, rfl, ?_⟩) | ((with_reducible refine bx_ (b := .append) (xs := #[.tmp 22, .tmp 28]) rfl ?_); at_builtin; refine Kd.cD_ (Kd.int .i64) (w0 := w) w.heap.size rfl (.tmp 22) (.tmp 28) 22 2 (.int .i64 0) 8 rfl Try.underlying22 info2 rfl (by decide) (by omega) u6 x6_2 (wrap64 (-t108)) [.int .i64 (wrap64 (-t108))] (fun _ => True) (fun _ => False) rfl rfl ?aP (fun _ hk => hk.elim) ?aF ?aO ?aB ?aS ?aL ?_; (case aP => exact rfl); (case aB => exact (bq)); (case aF => exact (fun _ _ => trivial)); (case aO => exact (rz HO_6.out)); (case aS => exact (aA_ (bq))); (case aL => have := LMc14.out; omega); intro v110 w15 ho hb hg hat; rw [← Ny109.out] at ho; replace BK101 := Aside0.mk (blk_grown (g := gb101) (o := .cells #[.string a1_0, .slice A1_1 l1_1.length c1_1] 28 (0, 0)) (kz BK101.out) hg (Kd.R_ne HO_6.out BK101.out (by decide))); replace HB := Aside0.mk (hb); have HO111 := Aside0.mk (ho); clear HO_6; clear ho hb hg hat))
      go_roundg k2
      case measure => have := HJ2.out; have := HK2.out; omega
      case rel => exact ⟨(y109), (wrap64 (x7_2 + 1)), (by first | rfl | (simp; done) | (simp [*]; done)), H', ⟨by have := HJ2.out; have := HK2.out; omega⟩, ⟨rz HO111.out⟩, ⟨by (with_reducible repeat (first | refine aK_ ?_ _ | refine ay_ ?_ | refine aI_ ?_ _)); exact BK101.out⟩, ⟨bq⟩⟩
   subst c8
   have H1 : (some (([] : List Int), 1)) = some (r1, r2) := by rw [if_pos rfl] at H; exact H
   clear H
   have H := H1
   clear H1
   simp only [Option.some.injEq, Prod.mk.injEq] at H
   obtain ⟨rfl, rfl⟩ := H
   go_wp2
   go_ret2
   exact ⟨_, by first | rfl | (simp [*, aH_, aG_] <;> rfl), by first | exact Kd.R_nil _ _ _ _ _ | exact Kd.N_nil _ _ _ _ _ | exact Kd.V_nil _ _ _ _ _ | exact Kd.Q_nil _ _ _ _ _ | exact Kd.S_nil _ _ _ _ _, bq⟩
end Go.Proofs.Yteafahnopgmgoaa.Q
namespace Go.Proofs.Yteafahnopgmgoaa.Q
open Go.RowKit Go.Proofs.YteafahnopgmgoaaW.PrintWords Go.Proofs.YteafahnopgmgoaaW.PrintLast Go.Proofs.YteafahnopgmgoaaW.PrintMore
abbrev Fe := S28
def vF (x : Fe) : Prop := x.f1.length = 6 ∧ x.f1.all okB = true
theorem Ev_all {α : Type} {g : Nat → Option α} {r : α} {n : Nat} (h : ∀ k, n < k → g k = some r) : Ev g r := ⟨n + 1, fun k hk => h k (by omega)⟩
theorem rdF_one (x : Fe) : af_ [x] 0 = x := rfl
theorem rdF_in (l : List Fe) (i : Nat) (h : i < l.length) : af_ l (i : Int) = l[i] := by unfold af_; exact getD_in l _ i h
theorem away2_ev (x y : Fe) (hx : vF x) (hy : vF y) : ∃ v : Int, 0 ≤ v ∧ v ≤ 1530 ∧ Ev (fun k => bj_.f k [x] [y]) v ∧ Ev (fun k => aj_.f k x.f0 x.f1 y.f0 y.f1) v := by
 obtain ⟨a, l⟩ := x
 obtain ⟨b, m⟩ := y
 obtain ⟨hl, h1⟩ := hx
 obtain ⟨hm, h2⟩ := hy
 simp only [] at hl h1 hm h2
 have go : ∀ (d i : Nat) (c : Int), i + d = 6 → 0 ≤ c → c ≤ 255 * (i : Int) → ∃ v, 0 ≤ v ∧ v ≤ 1530 ∧ Ev (fun k => bj_.l0 k [(⟨a, l⟩ : Fe)] [(⟨b, m⟩ : Fe)] c i) v ∧ Ev (fun k => aj_.l0 k c l (l.length : Int) i b m) v := by
  intro d
  induction d with
  | zero =>
   intro i c h c0 c1
   refine ⟨c, c0, by omega, bw_ ?_, bw_ ?_⟩
   ·simp only [bj_.l0]; exact Ev_f (by omega) (Ev_n rfl)
   ·simp only [aj_.l0]; exact Ev_f (by omega) (Ev_n rfl)
  | succ d ih =>
   intro i c h c0 c1
   have g1 : 0 ≤ l[i] ∧ l[i] ≤ 255 := by simpa [okB] using (List.all_eq_true.mp h1) l[i] (List.getElem_mem _)
   have g2 : 0 ≤ m[i] ∧ m[i] ≤ 255 := by simpa [okB] using (List.all_eq_true.mp h2) m[i] (List.getElem_mem _)
   have e1 : co_.f (wrap64 (l[i] - m[i])) (wrap64 (m[i] - l[i])) = some (if l[i] ≤ m[i] then m[i] - l[i] else l[i] - m[i]) := by
    unfold co_.f
    rw [w64 (x := l[i] - m[i]) (by omega) (by omega), w64 (x := m[i] - l[i]) (by omega) (by omega)]
    split <;> split <;> first | rfl | (congr 1; omega) | omega
   have e2 : ca_.f (wrap64 (l[i] - m[i])) = some (if l[i] ≤ m[i] then m[i] - l[i] else l[i] - m[i]) := by
    unfold ca_.f
    rw [w64 (x := l[i] - m[i]) (by omega) (by omega), w64 (by omega) (by omega)]
    unfold mx
    split <;> split <;> first | rfl | (congr 1; omega) | omega
   obtain ⟨t, ht⟩ : ∃ t, t = (if l[i] ≤ m[i] then m[i] - l[i] else l[i] - m[i]) := ⟨_, rfl⟩
   have t0 : 0 ≤ t ∧ t ≤ 255 := by rw [ht]; split <;> omega
   rw [← ht] at e1 e2
   obtain ⟨v, v0, v1, q1, q2⟩ := ih (i + 1) (c + t) (by omega) (by omega) (by omega)
   refine ⟨v, v0, v1, bw_ ?_, bw_ ?_⟩
   ·simp only [bj_.l0, rdF_one]
    refine Ev_t (by omega) (Ev_t (by simp) (Ev_t (by omega) (Ev_t (by omega) (Ev_t (by simp) (Ev_t (by omega) ?_)))))
    rw [rd_nat l i (by omega), rd_nat m i (by omega)]
    refine Ev_b (Ev_c e1) ?_
    rw [wr64 (x := c + t) (by omega) (by omega), wr64s i (by omega)]
    exact q1
   ·simp only [aj_.l0]
    refine Ev_t (by omega) (Ev_t (by omega) (Ev_t (by omega) (Ev_t (by omega) ?_)))
    rw [rd_nat l i (by omega), rd_nat m i (by omega)]
    refine Ev_b (Ev_c e2) ?_
    rw [wr64 (x := c + t) (by omega) (by omega), wr64s i (by omega)]
    exact q2
 obtain ⟨v, v0, v1, q1, q2⟩ := go 6 0 0 rfl (by omega) (by omega)
 refine ⟨v, v0, v1, ?_, ?_⟩
 ·simp only [bj_.f]; exact q1
 ·simp only [aj_.f]; exact q2
theorem dist_fun (m : List Fe) (f : Fe) (hm : ∀ y ∈ m, vF y) (hf : vF f) : ∃ D : Nat → Int, ∀ i (h : i < m.length), 0 ≤ D i ∧ D i ≤ 1530 ∧ Ev (fun k => bj_.f k [m[i]] [f]) (D i) ∧ Ev (fun k => aj_.f k m[i].f0 m[i].f1 f.f0 f.f1) (D i) := by
 have : ∀ i, ∃ v : Int, ∀ h : i < m.length, 0 ≤ v ∧ v ≤ 1530 ∧ Ev (fun k => bj_.f k [m[i]] [f]) v ∧ Ev (fun k => aj_.f k m[i].f0 m[i].f1 f.f0 f.f1) v := by
  intro i
  by_cases h : i < m.length
  rotate_left
  ·exact ⟨0, fun h' => absurd h' h⟩
  obtain ⟨v, hv⟩ := away2_ev m[i] f (hm _ (List.getElem_mem _)) hf
  exact ⟨v, fun _ => hv⟩
 exact Classical.axiomOfChoice this
def insr (D : Nat → Int) (x : Nat) : List Nat → List Nat
 | [] => [x]
 | y :: r => if D x < D y then y :: insr D x r else x :: y :: r
theorem insr_mem (D : Nat → Int) (x z : Nat) : ∀ r, z ∈ insr D x r ↔ z = x ∨ z ∈ r
 | [] => by simp [insr]
 | y :: r => by
  unfold insr
  split
  ·simp only [List.mem_cons, insr_mem D x z r]
   constructor
   ·rintro (h | h | h) <;> simp [h]
   ·rintro (h | h | h) <;> simp [h]
  ·simp only [List.mem_cons]
theorem insr_len (D : Nat → Int) (x : Nat) : ∀ r, (insr D x r).length = r.length + 1
 | [] => rfl
 | y :: r => by
  unfold insr
  split
  ·simp [insr_len D x r]
  ·simp
def ranks (D : Nat → Int) : Nat → List Nat
 | 0 => []
 | n + 1 => insr D n (ranks D n)
theorem ranks_mem (D : Nat → Int) : ∀ n z, z ∈ ranks D n ↔ z < n
 | 0, z => by simp [ranks]
 | n + 1, z => by rw [ranks, insr_mem, ranks_mem D n z]; omega
theorem bW_ (D : Nat → Int) : ∀ n, (ranks D n).length = n
 | 0 => rfl
 | n + 1 => by rw [ranks, insr_len, bW_ D n]
def up (r : List Nat) : List Int := r.reverse.map (fun (i : Nat) => (i : Int))
theorem up_cons (y : Nat) (r : List Nat) : up (y :: r) = up r ++ [(y : Int)] := by simp [up]
theorem up_len (r : List Nat) : (up r).length = r.length := by simp [up]
theorem rd_mid (a b : List Int) (x : Int) (i : Nat) (h : a.length = i) : rd (a ++ x :: b) (i : Int) = x := by unfold rd; exact getD_at a b _ x i h
theorem spec_ins (D : Nat → Int) (n : Nat) (ds : List Int) (hn : ds.length = n) (hsm : n ≤ 1000) (hd : ∀ i, i < n → rd ds (i : Int) = - D i) (x : Nat) (hx : x < n) (R : List Int) : ∀ (r : List Nat) (b : List Int), (∀ z ∈ r, z < n) → r.length + b.length ≤ 2000 →
  Ev (fun k => aF_.l0 k ds (up (insr D x r) ++ b) ((x + 1 : Nat) : Int)) R → Ev (fun k => aF_.l1 k ds (up r ++ b) x (r.length : Int)) R := by
 intro r
 have own : ∀ l : List Int, l.length ≤ 2000 → bK_.f l = some l := fun l hl => by
  unfold bK_.f
  simp only [Option.bind_some]
  rw [if_pos (by simp; omega)]; rfl
 induction r with
 | nil =>
  intro b _ hl h
  refine bw_ ?_
  simp only [aF_.l1, up, List.reverse_nil, List.map_nil, List.nil_append]
  refine Ev_f (by simp) (Ev_t (by simp) (Ev_t (by simp) ?_))
  simp only [List.length_nil] at hl
  refine Ev_b (Ev_c (own _ (by simp))) ?_
  refine Ev_t (by simp) (Ev_s (Ev_s (Ev_t (by simp; omega) ?_)))
  rw [wr64s x (by omega)]
  simpa [up, insr] using h
 | cons y r ih =>
  intro b hz hl h
  have hy : y < n := hz y (List.mem_cons_self ..)
  simp only [List.length_cons] at hl
  have e1 : wrap64 (((r.length + 1 : Nat) : Int) - 1) = (r.length : Int) := by rw [wr64 (by omega) (by omega)]; omega
  have e2 : rd (up (y :: r) ++ b) (r.length : Int) = (y : Int) := by rw [up_cons, List.append_assoc, List.singleton_append]; exact rd_mid _ _ _ _ (up_len r)
  have e3 : (up (y :: r) ++ b).length = r.length + 1 + b.length := by simp [up_len]
  refine bw_ ?_
  simp only [aF_.l1, List.length_cons, e1, e2, hd y hy, hd x hx]
  refine Ev_t (by omega) (Ev_t (by omega) (Ev_t (by rw [e3]; omega) (Ev_t (by omega) (Ev_t (by omega) (Ev_t (by omega) (Ev_t (by omega) ?_))))))
  by_cases c : D x < D y
  rotate_left
  ·refine Ev_f (by omega) (Ev_t (by omega) (Ev_t (by rw [e3]; omega) ?_))
   have e4 : (up (y :: r) ++ b).take ((r.length + 1 : Nat) : Int).toNat = up (y :: r) := by rw [Int.toNat_natCast]; exact List.take_left' (by simp [up_len])
   have e5 : (up (y :: r) ++ b).drop ((r.length + 1 : Nat) : Int).toNat = b := by rw [Int.toNat_natCast]; exact List.drop_left' (by simp [up_len])
   rw [e4, e5]
   refine Ev_b (Ev_c (own _ (by simp [up_len]; omega))) ?_
   refine Ev_t (by simp [up_len]; omega) (Ev_s (Ev_s (Ev_t (by simp [up_len]; omega) ?_)))
   rw [wr64s x (by omega)]
   rw [insr, if_neg c, up_cons] at h
   exact h
  refine Ev_t (by omega) ?_
  rw [up_cons, List.append_assoc, List.singleton_append]
  refine ih ((y : Int) :: b) (fun z h => hz z (List.mem_cons_of_mem _ h)) (by simp; omega) ?_
  rw [insr, if_pos c, up_cons, List.append_assoc, List.singleton_append] at h
  exact h
theorem spec_order (D : Nat → Int) (n : Nat) (ds : List Int) (hn : ds.length = n) (hsm : n ≤ 1000) (hd : ∀ i, i < n → rd ds (i : Int) = - D i) : Ev (fun k => aF_.f k ds) (up (ranks D n)) := by
 have go : ∀ (d i : Nat), i + d = n → Ev (fun k => aF_.l0 k ds (up (ranks D i)) i) (up (ranks D n)) := by
  intro d
  induction d with
  | zero =>
   intro i h
   refine bw_ ?_
   simp only [aF_.l0]
   obtain rfl : i = n := by omega
   exact Ev_f (by omega) (Ev_n rfl)
  | succ d ih =>
   intro i h
   refine bw_ ?_
   simp only [aF_.l0]
   refine Ev_t (by omega) ?_
   have := spec_ins D n ds hn hsm hd i (by omega) _ (ranks D i) [] (fun z h => by rw [ranks_mem] at h; omega) (by rw [bW_]; simp; omega) (by rw [List.append_nil]; exact ih (i + 1) (by omega))
   rw [List.append_nil] at this
   rw [up_len]
   exact this
 simp only [aF_.f]
 exact go n 0 (by omega)
def rng (a n : Nat) : List Int := (List.range' a (n - a)).map (fun (i : Nat) => (i : Int))
theorem rng_cons (a n : Nat) (h : a < n) : rng a n = (a : Int) :: rng (a + 1) n := by
 unfold rng
 rw [show n - a = (n - (a + 1)) + 1 by omega, List.range'_succ]
 rfl
theorem rng_len (a n : Nat) : (rng a n).length = n - a := by simp [rng]
theorem rng_nil (n : Nat) : rng n n = [] := by simp [rng]
theorem rng_last (n : Nat) : rng 0 (n + 1) = rng 0 n ++ [(n : Int)] := by
 unfold rng
 rw [show n + 1 - 0 = n + 1 by omega, List.range'_1_concat, List.map_append, Nat.sub_zero]
 simp
theorem cmp_ev (m : List Fe) (f : Fe) (D : Nat → Int) (hD : ∀ i (h : i < m.length), 0 ≤ D i ∧ D i ≤ 1530 ∧ Ev (fun k => bj_.f k [m[i]] [f]) (D i) ∧ Ev (fun k => aj_.f k m[i].f0 m[i].f1 f.f0 f.f1) (D i)) (x y : Nat) (hx : x < m.length) (hy : y < m.length) :
  Ev (fun k => aP_.f k x y [m] [f]) (D x - D y) := by
 simp only [aP_.f]
 obtain ⟨x0, x1, _, xe⟩ := hD x hx
 obtain ⟨y0, y1, _, ye⟩ := hD y hy
 have e : rd_L9 [m] 0 = m := rfl
 rw [e, rdF_in m x hx, rdF_in m y hy, rdF_one]
 refine Ev_t (by simp) (Ev_t (by omega) (Ev_t (by omega) (Ev_t (by simp) (Ev_b xe (Ev_t (by omega) (Ev_t (by omega) (Ev_b ye (Ev_n ?_))))))))
 exact wr64 (by omega) (by omega)
theorem impl_ins (m : List Fe) (f : Fe) (D : Nat → Int) (hD : ∀ i (h : i < m.length), 0 ≤ D i ∧ D i ≤ 1530 ∧ Ev (fun k => bj_.f k [m[i]] [f]) (D i) ∧ Ev (fun k => aj_.f k m[i].f0 m[i].f1 f.f0 f.f1) (D i)) (hsm : m.length ≤ 1000) (x : Nat) (hx : x < m.length) (n2 : Int) (R : List Int) : ∀ (r : List Nat) (b : List Int), (∀ z ∈ r, z < m.length) → r.length + b.length ≤ 2000 →
  Ev (fun k => ab_.l0 k (up (insr D x r) ++ b) 0 n2 ((x + 1 : Nat) : Int) [m] [f]) R → Ev (fun k => ab_.l1 k (up r ++ (x : Int) :: b) 0 n2 x (r.length : Int) [m] [f]) R := by
 intro r
 induction r with
 | nil =>
  intro b _ hl h
  refine bw_ ?_
  simp only [ab_.l1]
  refine Ev_f (by simp) ?_
  rw [wr64s x (by omega)]
  simpa [up, insr] using h
 | cons y r ih =>
  intro b hz hl h
  have hy : y < m.length := hz y (List.mem_cons_self ..)
  simp only [List.length_cons] at hl
  have e1 : wrap64 (((r.length + 1 : Nat) : Int) - 1) = (r.length : Int) := by rw [wr64 (by omega) (by omega)]; omega
  have e2 : rd (up (y :: r) ++ (x : Int) :: b) (r.length : Int) = (y : Int) := by rw [up_cons, List.append_assoc, List.singleton_append]; exact rd_mid _ _ _ _ (up_len r)
  have e2' : rd (up (y :: r) ++ (x : Int) :: b) ((r.length + 1 : Nat) : Int) = (x : Int) := rd_mid _ _ _ _ (by rw [up_len]; rfl)
  have e3 : (up (y :: r) ++ (x : Int) :: b).length = r.length + 2 + b.length := by simp [up_len]; omega
  refine bw_ ?_
  simp only [ab_.l1, List.length_cons, e1, e2, e2']
  refine Ev_t (by omega) (Ev_t (by omega) (Ev_t (by rw [e3]; omega) (Ev_t (by omega) (Ev_t (by rw [e3]; omega) (Ev_b (cmp_ev m f D hD x y hx hy) ?_)))))
  by_cases c : D x < D y
  rotate_left
  ·refine Ev_f (by omega) ?_
   rw [wr64s x (by omega)]
   rw [insr, if_neg c, up_cons, List.append_assoc, List.singleton_append] at h
   exact h
  refine Ev_t (by omega) ?_
  have e6 : ((up (y :: r) ++ (x : Int) :: b).set ((r.length + 1 : Nat) : Int).toNat (y : Int)).set (r.length : Int).toNat (x : Int) = up r ++ (x : Int) :: (y : Int) :: b := by
   rw [set_at (up (y :: r)) b (x : Int) (y : Int) (r.length + 1) (by rw [up_len]; rfl), up_cons, List.append_assoc, List.singleton_append, set_at (up r) _ (y : Int) (x : Int) r.length (up_len r)]
  rw [e6]
  refine ih ((y : Int) :: b) (fun z h => hz z (List.mem_cons_of_mem _ h)) (by simp; omega) ?_
  rw [insr, if_pos c, up_cons, List.append_assoc, List.singleton_append] at h
  exact h
theorem impl_order (m : List Fe) (f : Fe) (D : Nat → Int) (hD : ∀ i (h : i < m.length), 0 ≤ D i ∧ D i ≤ 1530 ∧ Ev (fun k => bj_.f k [m[i]] [f]) (D i) ∧ Ev (fun k => aj_.f k m[i].f0 m[i].f1 f.f0 f.f1) (D i)) (hsm : m.length ≤ 16) :
  Ev (fun k => bh_.f k (rng 0 m.length) [m] [f]) (up (ranks D m.length)) := by
 have go : ∀ (d i : Nat), i + d = m.length → Ev (fun k => ab_.l0 k (up (ranks D i) ++ rng i m.length) 0 (m.length : Int) i [m] [f]) (up (ranks D m.length)) := by
  intro d
  induction d with
  | zero =>
   intro i h
   refine bw_ ?_
   simp only [ab_.l0]
   obtain rfl : i = m.length := by omega
   exact Ev_f (by omega) (Ev_n (by rw [rng_nil, List.append_nil]))
  | succ d ih =>
   intro i h
   refine bw_ ?_
   simp only [ab_.l0]
   refine Ev_t (by omega) ?_
   rw [rng_cons i _ (by omega)]
   have := impl_ins m f D hD (by omega) i (by omega) (m.length : Int) _ (ranks D i) (rng (i + 1) m.length) (fun z h => by rw [ranks_mem] at h; omega) (by rw [bW_, rng_len]; omega) (ih (i + 1) (by omega))
   rw [bW_] at this
   exact this
 have ins : Ev (fun k => ab_.f k (rng 0 m.length) 0 (m.length : Int) [m] [f]) (up (ranks D m.length)) := by
  simp only [ab_.f]
  rw [show wrap64 ((0 : Int) + 1) = 1 by rw [wr64 (by omega) (by omega)]; rfl]
  by_cases h0 : m.length = 0
  rotate_left
  ·have := go (m.length - 1) 1 (by omega)
   rw [show up (ranks D 1) ++ rng 1 m.length = rng 0 m.length by rw [rng_cons 0 _ (by omega)]; rfl] at this
   exact this
  refine bw_ ?_
  simp only [ab_.l0]
  rw [h0]
  exact Ev_f (by decide) (Ev_n rfl)
 simp only [bh_.f]
 refine Ev_b ?_ (Ev_n rfl)
 have hl : ((rng 0 m.length).length : Int) = (m.length : Int) := by rw [rng_len]; omega
 rw [hl]
 simp only [ak_.f]
 refine bw_ ?_
 simp only [ak_.l0]
 refine Ev_f (by omega) (Ev_b ins (bw_ ?_))
 simp only [ak_.l1]
 exact Ev_f (by omega) (Ev_n rfl)
theorem ranked_ev (m : List Fe) (hl : (m.length : Int) ≤ 1048576) (f : Fe) (hf : (f.f1.length : Int) ≤ 1048576) : ∃ (r0 : List Int) (r1 : Int), (r0.length : Int) ≤ 1048576 ∧ Ev (fun k => aw_.f k m f.f0 f.f1) (r0, r1) ∧ Ev (fun k => al_.f k m f.f0 f.f1) (r0, r1) ∧
  (r1 = 0 → m.length ≤ 16 ∧ (∀ y ∈ m, vF y) ∧ vF f ∧ ∃ D : Nat → Int, (∀ i (h : i < m.length), 0 ≤ D i ∧ D i ≤ 1530 ∧ Ev (fun k => bj_.f k [m[i]] [f]) (D i) ∧ Ev (fun k => aj_.f k m[i].f0 m[i].f1 f.f0 f.f1) (D i)) ∧ r0 = up (ranks D m.length)) ∧ (∃ b, Ev (fun k => aV_.f k m) b ∧ Ev (fun k => an_.f k m) b ∧ ∃ c, Ev (fun k => aB_.f k [f]) c ∧ Ev (fun k => aE_.f k f.f0 f.f1) c ∧ r1 = if b = true ∧ c = true then 0 else 1) := by
 obtain ⟨b, hb, hbk⟩ := validS_ev m hl
 obtain ⟨c, hc, hck⟩ := valid_ev f.f0 f.f1
 have b1 : Ev (fun k => aV_.f k m) b := Ev_all (fun k h => (hbk k h).1)
 have b2 : Ev (fun k => an_.f k m) b := Ev_all (fun k h => (hbk k h).2)
 have c1 : Ev (fun k => aB_.f k [f]) c := Ev_all (fun k h => (hck k h).1)
 have c2 : Ev (fun k => aE_.f k f.f0 f.f1) c := Ev_all (fun k h => (hck k h).2)
 have bad : (b = false ∨ (b = true ∧ c = false)) → Ev (fun k => aw_.f k m f.f0 f.f1) ([], 1) ∧ Ev (fun k => al_.f k m f.f0 f.f1) ([], 1) := by
  intro h
  simp only [aw_.f, al_.f]
  rcases h with rfl | ⟨rfl, rfl⟩
  ·exact ⟨Ev_b b1 (Ev_f (by decide) (bw_ (by simp only [aw_.j0]; exact Ev_t (by simp) (Ev_n rfl)))), Ev_b b2 (Ev_f (by decide) (bw_ (by simp only [al_.j0]; exact Ev_t (by simp) (Ev_n rfl))))⟩
  ·exact ⟨Ev_b b1 (Ev_t rfl (Ev_b c1 (bw_ (by simp only [aw_.j0]; exact Ev_t (by simp) (Ev_n rfl))))), Ev_b b2 (Ev_t rfl (Ev_b c2 (bw_ (by simp only [al_.j0]; exact Ev_t (by simp) (Ev_n rfl)))))⟩
 cases b with
 | false => exact ⟨[], 1, by simp, (bad (.inl rfl)).1, (bad (.inl rfl)).2, fun h => absurd h (by decide), false, b1, b2, c, c1, c2, by simp⟩
 | true =>
  cases c with
  | false => exact ⟨[], 1, by simp, (bad (.inr ⟨rfl, rfl⟩)).1, (bad (.inr ⟨rfl, rfl⟩)).2, fun h => absurd h (by decide), true, b1, b2, false, c1, c2, by simp⟩
  | true =>
   obtain ⟨h16, hv⟩ := hb rfl
   have hvf : vF f := hc rfl
   obtain ⟨D, hD⟩ := dist_fun m f hv hvf
   refine ⟨up (ranks D m.length), 0, by rw [up_len, bW_]; exact hl, ?_, ?_, fun _ => ⟨h16, hv, hvf, D, hD, rfl⟩, true, b1, b2, true, c1, c2, by simp⟩
   ·simp only [aw_.f]
    refine Ev_b b1 (Ev_t rfl (Ev_b c1 (bw_ ?_)))
    simp only [aw_.j0]
    refine Ev_f (by decide) ?_
    have go : ∀ (d i : Nat) (ds : List Int), i + d = m.length → ds.length = i → (∀ j, j < i → rd ds (j : Int) = - D j) → Ev (fun k => aw_.l0 k m ds i f.f0 f.f1) (up (ranks D m.length), 0) := by
     intro d
     induction d with
     | zero =>
      intro i ds h h1 h2
      refine bw_ ?_
      simp only [aw_.l0]
      obtain rfl : i = m.length := by omega
      exact Ev_f (by omega) (Ev_b (spec_order D m.length ds h1 (by omega) h2) (Ev_n rfl))
     | succ d ih =>
      intro i ds h h1 h2
      obtain ⟨v0, v1, ve, _⟩ := hD i (by omega)
      refine bw_ ?_
      simp only [aw_.l0]
      rw [rdF_in m i (by omega)]
      refine Ev_t (by omega) (Ev_t (by omega) (Ev_b ve (Ev_t (by omega) ?_)))
      rw [wr64s i (by omega), wr64 (x := -D i) (by omega) (by omega)]
      refine ih (i + 1) _ (by omega) (by simp [h1]) (fun j hj => ?_)
      by_cases hji : j = i
      rotate_left
      ·have h3 := h2 j (by omega)
       unfold rd at h3 ⊢
       rw [← h3, List.getD_eq_getElem?_getD, List.getD_eq_getElem?_getD, List.getElem?_append_left (by simp; omega)]
      subst hji; exact rd_mid ds [] _ _ h1
    exact go m.length 0 [] (by omega) rfl (fun j hj => absurd hj (by omega))
   ·simp only [al_.f]
    refine Ev_b b2 (Ev_t rfl (Ev_b c2 (bw_ ?_)))
    simp only [al_.j0]
    refine Ev_f (by decide) ?_
    have go : ∀ (d i : Nat), i + d = m.length → Ev (fun k => al_.l0 k (rng 0 i) (m.length : Int) i m f.f0 f.f1) (up (ranks D m.length), 0) := by
     intro d
     induction d with
     | zero =>
      intro i h
      refine bw_ ?_
      simp only [al_.l0]
      obtain rfl : i = m.length := by omega
      exact Ev_f (by omega) (Ev_b (impl_order m f D hD h16) (Ev_n rfl))
     | succ d ih =>
      intro i h
      refine bw_ ?_
      simp only [al_.l0]
      refine Ev_t (by omega) (Ev_t (by rw [rng_len]; omega) ?_)
      rw [wr64s i (by omega), ← rng_last]
      exact ih (i + 1) (by omega)
    exact go m.length 0 (by omega)
def u8s (c : List Int) : Prop := (c.length : Int) ≤ 1048576 ∧ ∀ x ∈ c, 0 ≤ x ∧ x < 256
theorem u64w (n : Int) : IntKind.u64.wrap n = n % 18446744073709551616 := by simp [IntKind.wrap, IntKind.bits, IntKind.signed]
theorem p64 : (2 : Int) ^ 64 = 18446744073709551616 := by decide
theorem u64wr (n : Int) (h0 : 0 ≤ n) (h1 : n < 2 ^ 64) : IntKind.u64.wrap n = n := by
 rw [p64] at h1
 rw [u64w]
 omega
theorem and255 (x : Int) (h : 0 ≤ x) (h2 : x < 18446744073709551616) : Go.bits .and .u64 x 255 = x % 256 := by
 have h3 : x < 2 ^ 64 := by rw [p64]; exact h2
 exact bits_mask .u64 64 (by decide) u64wr 8 (by decide) x h h3
theorem high_byte (z : Int) : 0 ≤ wrap64 (Go.bits .and .u64 (IntKind.u64.wrap z / 1099511627776) 255) ∧ wrap64 (Go.bits .and .u64 (IntKind.u64.wrap z / 1099511627776) 255) < 256 := by
 rw [u64w, and255 _ (by omega) (by omega), wr64 (by omega) (by omega)]
 omega
theorem next_ok (c : List Int) (hc : u8s c) (a s : Int) (h0 : 0 ≤ a) (h1 : a < 4611686018427387904) : ∃ v s', bG_.f c a s = some (v, a + 1, s') ∧ 0 ≤ v ∧ v < 256 := by
 have ha : wrap64 (a + 1) = a + 1 := wr64 (by omega) (by omega)
 unfold bG_.f
 rw [ha]
 by_cases c1 : a < (c.length : Int)
 rotate_left
 ·rw [if_neg c1]
  rw [if_neg (by omega)]
  have hb := high_byte ((IntKind.u64.wrap ((IntKind.u64.wrap (s * 6364136223846793005)))) + 1442695040888963407)
  exact ⟨_, _, rfl, hb.1, hb.2⟩
 rw [if_pos c1, if_pos h0, if_pos (by omega)]
 have hv : 0 ≤ rd c a ∧ rd c a < 256 := by
  unfold rd
  have hi : a.toNat < c.length := by omega
  rw [List.getD_eq_getElem?_getD, List.getElem?_eq_getElem hi]
  exact hc.2 _ (List.getElem_mem hi)
 rw [wr64 (x := rd c a) (by omega) (by omega)]
 exact ⟨_, _, rfl, hv.1, hv.2⟩
theorem pick_ok (c : List Int) (hc : u8s c) (a s n : Int) (h0 : 0 ≤ a) (h1 : a < 4611686018427387000) (hn : n < 65536) : ∃ v a' s', aT_.f c a s n = some (v, a', s') ∧ a ≤ a' ∧ a' ≤ a + 2 ∧ 0 ≤ v ∧ (0 < n → v < n) := by
 unfold aT_.f
 by_cases c1 : n ≤ 1
 rotate_left
 ·rw [if_neg c1]
  obtain ⟨v, s1, e1, v0, v1⟩ := next_ok c hc a s h0 (by omega)
  rw [e1]
  simp only [Option.bind_some]
  by_cases c2 : n > 200
  rotate_left
  ·rw [if_neg c2, if_neg (by omega)]
   refine ⟨_, _, _, rfl, by omega, by omega, Int.tmod_nonneg _ (by omega), fun _ => Int.tmod_lt_of_pos _ (by omega)⟩
  rw [if_pos c2]
  obtain ⟨v2, s2, e2, w0, w1⟩ := next_ok c hc (a + 1) s1 (by omega) (by omega)
  rw [e2]
  simp only [Option.bind_some]
  rw [if_neg (by omega), wr64 (x := v * 256) (by omega) (by omega), wr64 (by omega) (by omega)]
  refine ⟨_, _, _, rfl, by omega, by omega, Int.tmod_nonneg _ (by omega), fun _ => Int.tmod_lt_of_pos _ (by omega)⟩
 rw [if_pos c1]; exact ⟨0, a, s, rfl, by omega, by omega, by omega, by omega⟩
theorem text_ok (c : List Int) (hc : u8s c) (a s : Int) (l : List ByteArray) (h0 : 0 ≤ a) (h1 : a < 4611686018427387000) (hl : 0 < l.length) (hl2 : (l.length : Int) < 65536) : ∃ v a' s', bs_.f c a s l = some (v, a', s') ∧ a ≤ a' ∧ a' ≤ a + 2 ∧ v ∈ l := by
 unfold bs_.f
 obtain ⟨v, a', s', e, h2, h3, v0, v1⟩ := pick_ok c hc a s (l.length : Int) h0 h1 hl2
 have hv := v1 (by omega)
 rw [e]
 simp only [Option.bind_some]
 rw [if_pos v0, if_pos hv]
 refine ⟨_, _, _, rfl, h2, h3, ?_⟩
 unfold rdOf
 have hi : v.toNat < l.length := by omega
 rw [List.getD_eq_getElem?_getD, List.getElem?_eq_getElem hi]
 exact List.getElem_mem hi
theorem among_ok (c : List Int) (hc : u8s c) (a s : Int) (l : List Int) (h0 : 0 ≤ a) (h1 : a < 4611686018427387000) (hl : 0 < l.length) (hl2 : (l.length : Int) < 65536) : ∃ v a' s', bc_.f c a s l = some (v, a', s') ∧ a ≤ a' ∧ a' ≤ a + 2 ∧ v ∈ l := by
 unfold bc_.f
 obtain ⟨v, a', s', e, h2, h3, v0, v1⟩ := pick_ok c hc a s (l.length : Int) h0 h1 hl2
 have hv := v1 (by omega)
 rw [e]
 simp only [Option.bind_some]
 rw [if_pos v0, if_pos hv]
 refine ⟨_, _, _, rfl, h2, h3, ?_⟩
 unfold rd
 have hi : v.toNat < l.length := by omega
 rw [List.getD_eq_getElem?_getD, List.getElem?_eq_getElem hi]
 exact List.getElem_mem hi
theorem one_ok (c : List Int) (hc : u8s c) (a s n : Int) (h0 : 0 ≤ a) (h1 : a < 4611686018427387000) (hn : n < 65536) : ∃ v a' s', cg_.f c a s n = some (v, a', s') ∧ a ≤ a' ∧ a' ≤ a + 2 := by
 unfold cg_.f
 obtain ⟨v, a', s', e, h2, h3, v0, v1⟩ := pick_ok c hc a s n h0 h1 hn
 rw [e]
 exact ⟨_, _, _, rfl, h2, h3⟩
theorem strOf_size (l : List Int) : (strOfNums l).size = l.length := by
 unfold strOfNums
 show (List.toArray _).size = _
 simp
theorem okF_loop (c : List Int) (hc : u8s c) (id : ByteArray) : ∀ (n i : Nat) (a s : Int) (l : List Int), i + n = 6 → l.length = i → 0 ≤ a → a + 2 * n < 4611686018427380000 → ∃ l' a' s', Ev (fun k => aL_.l0 k i c a s id l) (id, l', a', s') ∧ a ≤ a' ∧ a' ≤ a + 2 * n ∧ l'.length = 6
 | 0, i, a, s, l, h, hl, h0, h1 => ⟨l, a, s, by refine bw_ ?_; simp only [aL_.l0]; exact Ev_f (by omega) (Ev_n rfl), by omega, by omega, by omega⟩
 | n + 1, i, a, s, l, h, hl, h0, h1 => by
  obtain ⟨v, a1, s1, e1, p1, q1, _⟩ := among_ok c hc a s [0, 10, 50, 100, 255, 20, 30, 12] h0 (by omega) (by simp) (by simp)
  obtain ⟨l', a', s', h2, h3, h4, h5⟩ := okF_loop c hc id n (i + 1) a1 s1 (l ++ [v]) (by omega) (by simp; omega) (by omega) (by omega)
  refine ⟨l', a', s', bw_ ?_, by omega, by omega, h5⟩
  simp only [aL_.l0]
  rw [wr64s i (by omega)]
  exact Ev_t (by omega) (Ev_b (Ev_c e1) (Ev_t (by omega) h2))
theorem okF_draw (c : List Int) (hc : u8s c) (a s : Int) (id : ByteArray) (h0 : 0 ≤ a) (h1 : a < 4611686018427300000) : ∃ l a' s', Ev (fun k => aL_.f k c a s id) (id, l, a', s') ∧ a ≤ a' ∧ a' ≤ a + 12 ∧ l.length = 6 := by
 obtain ⟨l, a', s', h2, h3, h4, h5⟩ := okF_loop c hc id 6 0 a s [] (by omega) rfl h0 (by omega)
 exact ⟨l, a', s', by simp only [aL_.f]; exact h2, h3, by omega, h5⟩
theorem oneF_draw (c : List Int) (hc : u8s c) (a s : Int) (h0 : 0 ≤ a) (h1 : a < 4611686018427200000) : ∃ (x : Fe) (a' s' : Int), Ev (fun k => ba_.f k c a s) (x.f0, x.f1, a', s') ∧ a ≤ a' ∧ a' ≤ a + 30 ∧ x.f1.length ≤ 6 := by
 obtain ⟨id, a1, s1, e1, p1, q1, _⟩ := text_ok c hc a s [(⟨#[97]⟩ : ByteArray), (⟨#[98]⟩ : ByteArray), (⟨#[111, 97, 107, 49]⟩ : ByteArray)] h0 (by omega) (by simp) (by simp)
 obtain ⟨l, a2, s2, e2, p2, q2, hl⟩ := okF_draw c hc a1 s1 id (by omega) (by omega)
 obtain ⟨v, a3, s3, e3, p3, q3, v0, v1⟩ := pick_ok c hc a2 s2 18 (by omega) (by omega) (by omega)
 by_cases c0 : v = 0
 ·obtain ⟨u, a4, s4, e4, p4, q4, _⟩ := among_ok c hc a3 s3 [(-1), 255, 256] (by omega) (by omega) (by simp) (by simp)
  refine ⟨⟨id, l.set (3 : Int).toNat u⟩, a4, s4, ?_, by omega, by omega, by simp; omega⟩
  simp only [ba_.f]
  exact Ev_b (Ev_c e1) (Ev_b e2 (Ev_b (Ev_c e3) (Ev_t c0 (Ev_b (Ev_c e4) (Ev_t (by dsimp only; omega) (Ev_n rfl))))))
 by_cases c1 : v = 1
 ·refine ⟨⟨id, l.drop (1 : Int).toNat⟩, a3, s3, ?_, by omega, by omega, by simp; omega⟩
  simp only [ba_.f]
  exact Ev_b (Ev_c e1) (Ev_b e2 (Ev_b (Ev_c e3) (Ev_f c0 (Ev_t c1 (Ev_t (by dsimp only; omega) (Ev_n rfl))))))
 by_cases c2 : v = 2
 rotate_left
 ·refine ⟨⟨id, l⟩, a3, s3, ?_, by omega, by omega, by simp; omega⟩
  simp only [ba_.f]
  exact Ev_b (Ev_c e1) (Ev_b e2 (Ev_b (Ev_c e3) (Ev_f c0 (Ev_f c1 (Ev_f c2 (Ev_n rfl))))))
 obtain ⟨u, a4, s4, e4, p4, q4, _⟩ := text_ok c hc a3 s3 [(⟨#[]⟩ : ByteArray), (⟨#[65]⟩ : ByteArray)] (by omega) (by omega) (by simp) (by simp)
 refine ⟨⟨u, l⟩, a4, s4, ?_, by omega, by omega, by simp; omega⟩
 simp only [ba_.f]
 exact Ev_b (Ev_c e1) (Ev_b e2 (Ev_b (Ev_c e3) (Ev_f c0 (Ev_f c1 (Ev_t c2 (Ev_b (Ev_c e4) (Ev_n rfl)))))))
def fOk (m : List Fe) (n : Nat) : Prop := m.length ≤ n ∧ ∀ y ∈ m, y.f1.length ≤ 6
theorem fOk.snoc {m : List Fe} {n : Nat} (h : fOk m n) {x : Fe} (hx : x.f1.length ≤ 6) : fOk (m ++ [x]) (n + 1) := by
 refine ⟨by have := h.1; simp; omega, fun y hy => ?_⟩
 rcases List.mem_append.1 hy with g | g
 ·exact h.2 y g
 ·rw [List.mem_singleton.1 g]; exact hx
theorem many_loop (c : List Int) (a s : Int) (N : Nat) (hN : N ≤ 17) : ∀ (d j : Nat) (m : List Fe), j + d = N → fOk m j → ∃ m', Ev (fun k => au_.l1 k m N j c a s) (m', a, s) ∧ fOk m' N
 | 0, j, m, h, hm => ⟨m, by refine bw_ ?_; simp only [au_.l1]; exact Ev_f (by omega) (Ev_n rfl), ⟨by have := hm.1; omega, hm.2⟩⟩
 | d + 1, j, m, h, hm => by
  have hl := hm.1
  obtain ⟨m', h2, h3⟩ := many_loop c a s N hN d (j + 1) (m ++ [(⟨(⟨#[110]⟩ : ByteArray) ++ (strOfNums [(wrap64 (97 + (j : Int))) % 256]), [(j : Int), wrap64 (2 * (j : Int)), 0, 0, 0, 0]⟩ : Fe)]) (by omega) (hm.snoc (by simp))
  refine ⟨m', bw_ ?_, h3⟩
  simp only [au_.l1]
  rw [wr64s j (by omega)]
  exact Ev_t (by omega) (Ev_s (Ev_t (by rw [strOf_size]; simp) (Ev_t (by omega) h2)))
theorem listF_loop (c : List Int) (hc : u8s c) (ns : List ByteArray) (hns : ns.length = 7) : ∀ (d i : Nat) (a s : Int) (m : List Fe), i + d = 7 → fOk m i → 0 ≤ a → a + 20 * d < 4611686018427100000 → ∃ m' a' s', Ev (fun k => au_.l0 k ns m i c a s) (m', a', s') ∧ a ≤ a' ∧ a' ≤ a + 20 * d + 40 ∧ fOk m' 17
 | 0, i, a, s, m, h, hm, h0, h1 => by
  have hl := hm.1
  obtain ⟨v, a1, s1, e1, p1, q1, v0, v1⟩ := pick_ok c hc a s 24 h0 (by omega) (by omega)
  by_cases c0 : v = 0
  ·obtain ⟨x, a2, s2, e2, p2, q2, hx⟩ := oneF_draw c hc a1 s1 (by omega) (by omega)
   refine ⟨m ++ [x], a2, s2, bw_ ?_, by omega, by omega, ⟨by simp; omega, (hm.snoc hx).2⟩⟩
   simp only [au_.l0]
   exact Ev_f (by omega) (Ev_b (Ev_c e1) (Ev_t c0 (Ev_b e2 (Ev_t (by omega) (Ev_n rfl)))))
  by_cases c1 : v = 1
  rotate_left
  ·refine ⟨m, a1, s1, bw_ ?_, by omega, by omega, ⟨by omega, hm.2⟩⟩
   simp only [au_.l0]
   exact Ev_f (by omega) (Ev_b (Ev_c e1) (Ev_f c0 (Ev_f c1 (Ev_n rfl))))
  obtain ⟨u, a2, s2, e2, p2, q2, hu⟩ := among_ok c hc a1 s1 [16, 17] (by omega) (by omega) (by simp) (by simp)
  have hu2 : u = 16 ∨ u = 17 := by simpa using hu
  obtain ⟨m', h2, h3⟩ := many_loop c a2 s2 u.toNat (by omega) u.toNat 0 [] (by omega) ⟨by simp, by simp⟩
  rw [show ((u.toNat : Nat) : Int) = u by omega] at h2
  refine ⟨m', a2, s2, bw_ ?_, by omega, by omega, ⟨by have := h3.1; omega, h3.2⟩⟩
  simp only [au_.l0]
  exact Ev_f (by omega) (Ev_b (Ev_c e1) (Ev_f c0 (Ev_t c1 (Ev_b (Ev_c e2) h2))))
 | d + 1, i, a, s, m, h, hm, h0, h1 => by
  have hl := hm.1
  obtain ⟨b, a1, s1, e1, p1, q1⟩ := one_ok c hc a s 2 h0 (by omega) (by omega)
  cases b with
  | false =>
   obtain ⟨m', a', s', h2, h3, h4, h5⟩ := listF_loop c hc ns hns d (i + 1) a1 s1 m (by omega) ⟨by omega, hm.2⟩ (by omega) (by omega)
   refine ⟨m', a', s', bw_ ?_, by omega, by omega, h5⟩
   simp only [au_.l0]
   rw [wr64s i (by omega)]
   exact Ev_t (by omega) (Ev_b (Ev_c e1) (Ev_f (by simp) h2))
  | true =>
   obtain ⟨l, a2, s2, e2, p2, q2, hl2⟩ := okF_draw c hc a1 s1 (rdOf ByteArray.empty ns i) (by omega) (by omega)
   obtain ⟨m', a', s', h2, h3, h4, h5⟩ := listF_loop c hc ns hns d (i + 1) a2 s2 (m ++ [(⟨rdOf ByteArray.empty ns i, l⟩ : Fe)]) (by omega) (hm.snoc (by dsimp only; omega)) (by omega) (by omega)
   refine ⟨m', a', s', bw_ ?_, by omega, by omega, h5⟩
   simp only [au_.l0]
   rw [wr64s i (by omega)]
   exact Ev_t (by omega) (Ev_b (Ev_c e1) (Ev_t rfl (Ev_t (by omega) (Ev_b e2 (Ev_t (by omega) h2)))))
theorem pairF_draw (c : List Int) (hc : u8s c) : ∃ (x y : Fe), Ev (fun k => by_.f k c) (x.f0, x.f1, y.f0, y.f1) ∧ x.f1.length ≤ 6 ∧ y.f1.length ≤ 6 := by
 obtain ⟨x, a1, s1, e1, p1, q1, hx⟩ := oneF_draw c hc 0 0 (by omega) (by omega)
 obtain ⟨y, a2, s2, e2, p2, q2, hy⟩ := oneF_draw c hc a1 s1 (by omega) (by omega)
 refine ⟨x, y, ?_, hx, hy⟩
 simp only [by_.f]
 exact Ev_b (a := (c, 0, 0)) (Ev_c rfl) (Ev_b e1 (Ev_b e2 (Ev_n rfl)))
theorem rankF_draw (c : List Int) (hc : u8s c) : ∃ (m : List Fe) (x : Fe), Ev (fun k => bB_.f k c) (m, x.f0, x.f1) ∧ fOk m 17 ∧ x.f1.length ≤ 6 := by
 obtain ⟨m, a1, s1, e1, p1, q1, hm⟩ := listF_loop c hc [(⟨#[97]⟩ : ByteArray), (⟨#[98]⟩ : ByteArray), (⟨#[99]⟩ : ByteArray), (⟨#[100]⟩ : ByteArray), (⟨#[101]⟩ : ByteArray), (⟨#[102]⟩ : ByteArray), (⟨#[103]⟩ : ByteArray)] rfl 7 0 0 0 [] (by omega) ⟨by simp, by simp⟩ (by omega) (by omega)
 obtain ⟨x, a2, s2, e2, p2, q2, hx⟩ := oneF_draw c hc a1 s1 (by omega) (by omega)
 refine ⟨m, x, ?_, hm, hx⟩
 simp only [bB_.f]
 refine Ev_b (a := (c, 0, 0)) (Ev_c rfl) (Ev_b (a := (m, a1, s1)) ?_ (Ev_b e2 (Ev_n rfl)))
 simp only [au_.f]
 exact e1
def ab (z : Int) : Int := if 0 ≤ z then z else -z
def ds : List Int → List Int → Int
 | a :: l, b :: m => ab (a - b) + ds l m
 | _, _ => 0
theorem ds_nonneg : ∀ l m : List Int, 0 ≤ ds l m
 | [], _ => by simp [ds]
 | _ :: _, [] => by simp [ds]
 | a :: l, b :: m => by have := ds_nonneg l m; simp only [ds]; unfold ab; split <;> omega
theorem ds_symm : ∀ l m : List Int, ds l m = ds m l
 | [], [] => rfl
 | [], _ :: _ => rfl
 | _ :: _, [] => rfl
 | a :: l, b :: m => by simp only [ds]; rw [ds_symm l m]; unfold ab; split <;> split <;> omega
theorem ds_tri : ∀ l m r : List Int, l.length = m.length → m.length = r.length → ds l r ≤ ds l m + ds m r
 | [], m, r, h1, h2 => by have := ds_nonneg m r; simp [ds]; omega
 | a :: l, [], r, h1, h2 => by simp at h1
 | a :: l, b :: m, [], h1, h2 => by simp at h2
 | a :: l, b :: m, e :: r, h1, h2 => by
  have := ds_tri l m r (by simpa using h1) (by simpa using h2)
  simp only [ds]
  unfold ab
  split <;> split <;> split <;> omega
theorem ds_zero : ∀ l m : List Int, l.length = m.length → (ds l m = 0 ↔ l = m)
 | [], [], _ => by simp [ds]
 | [], _ :: _, h => by simp at h
 | _ :: _, [], h => by simp at h
 | a :: l, b :: m, h => by
  have ih := ds_zero l m (by simpa using h)
  have := ds_nonneg l m
  simp only [ds, List.cons.injEq]
  unfold ab
  constructor
  ·intro h0
   refine ⟨by split at h0 <;> omega, ih.1 (by split at h0 <;> omega)⟩
  ·rintro ⟨rfl, rfl⟩
   rw [ih.2 rfl]; simp
theorem ds_le : ∀ l m : List Int, l.all okB = true → m.all okB = true → ds l m ≤ 255 * (l.length : Int)
 | [], _, _, _ => by simp [ds]
 | _ :: _, [], _, _ => by simp only [ds, List.length_cons]; omega
 | a :: l, b :: m, h1, h2 => by
  simp only [List.all_cons, Bool.and_eq_true, okB, decide_eq_true_eq] at h1 h2
  have := ds_le l m h1.2 h2.2
  simp only [ds, List.length_cons]
  unfold ab
  split <;> omega
theorem dist_ev (x y : Fe) (hx : vF x) (hy : vF y) : Ev (fun k => aj_.f k x.f0 x.f1 y.f0 y.f1) (ds x.f1 y.f1) ∧ 0 ≤ ds x.f1 y.f1 ∧ ds x.f1 y.f1 ≤ 1530 := by
 obtain ⟨a, l⟩ := x
 obtain ⟨b, m⟩ := y
 obtain ⟨hl, h1⟩ := hx
 obtain ⟨hm, h2⟩ := hy
 simp only [] at hl h1 hm h2
 have hle := ds_le l m h1 h2
 have hnn := ds_nonneg l m
 refine ⟨?_, hnn, by dsimp only; omega⟩
 have go : ∀ (d i : Nat) (c : Int), i + d = 6 → 0 ≤ c → c ≤ 255 * (i : Int) → Ev (fun k => aj_.l0 k c l (l.length : Int) i b m) (c + ds (l.drop i) (m.drop i)) := by
  intro d
  induction d with
  | zero =>
   intro i c h c0 c1
   refine bw_ ?_
   simp only [aj_.l0]
   rw [List.drop_of_length_le (by omega), List.drop_of_length_le (by omega)]
   exact Ev_f (by omega) (Ev_n (by simp [ds]))
  | succ d ih =>
   intro i c h c0 c1
   have g1 : 0 ≤ l[i] ∧ l[i] ≤ 255 := by simpa [okB] using (List.all_eq_true.mp h1) l[i] (List.getElem_mem _)
   have g2 : 0 ≤ m[i] ∧ m[i] ≤ 255 := by simpa [okB] using (List.all_eq_true.mp h2) m[i] (List.getElem_mem _)
   have e2 : ca_.f (wrap64 (l[i] - m[i])) = some (ab (l[i] - m[i])) := by
    unfold ca_.f ab
    rw [w64 (x := l[i] - m[i]) (by omega) (by omega), w64 (by omega) (by omega)]
    unfold mx
    split <;> split <;> first | rfl | (congr 1; omega) | omega
   have t0 : 0 ≤ ab (l[i] - m[i]) ∧ ab (l[i] - m[i]) ≤ 255 := by unfold ab; split <;> omega
   refine bw_ ?_
   simp only [aj_.l0]
   rw [List.drop_eq_getElem_cons (show i < l.length by omega), List.drop_eq_getElem_cons (show i < m.length by omega)]
   refine Ev_t (by omega) (Ev_t (by omega) (Ev_t (by omega) (Ev_t (by omega) ?_)))
   rw [rd_nat l i (by omega), rd_nat m i (by omega)]
   refine Ev_b (Ev_c e2) ?_
   rw [wr64 (x := c + ab (l[i] - m[i])) (by omega) (by omega), wr64s i (by omega)]
   refine Ev_at (ih (i + 1) (c + ab (l[i] - m[i])) (by omega) (by omega) (by omega)) ?_
   simp only [ds]
   omega
 simp only [aj_.f]
 have g := go 6 0 0 rfl (by omega) (by omega)
 simpa using g
def vaF (x : Fe) : Prop := vF x ∧ Ev (fun k => aB_.f k [x]) true ∧ Ev (fun k => aE_.f k x.f0 x.f1) true
theorem vaF_or (x : Fe) : vaF x ∨ (Ev (fun k => aB_.f k [x]) false ∧ Ev (fun k => aE_.f k x.f0 x.f1) false) := by
 obtain ⟨b, hb, hk⟩ := valid_ev x.f0 x.f1
 have b1 : Ev (fun k => aB_.f k [x]) b := Ev_all (fun k h => (hk k h).1)
 have b2 : Ev (fun k => aE_.f k x.f0 x.f1) b := Ev_all (fun k h => (hk k h).2)
 cases b with
 | false => exact Or.inr ⟨b1, b2⟩
 | true => exact Or.inl ⟨hb rfl, b1, b2⟩
theorem fd_ok {x y : Fe} (hx : vaF x) (hy : vaF y) : Ev (fun k => ar_.f k x.f0 x.f1 y.f0 y.f1) (ds x.f1 y.f1, 0) := by
 simp only [ar_.f]
 exact Ev_b hx.2.2 (Ev_t rfl (Ev_b hy.2.2 (Ev_t rfl (Ev_b (dist_ev x y hx.1 hy.1).1 (Ev_n rfl)))))
theorem fd_no {x y : Fe} (h : ¬ (vaF x ∧ vaF y)) : Ev (fun k => ar_.f k x.f0 x.f1 y.f0 y.f1) (0, 1) := by
 simp only [ar_.f]
 rcases vaF_or x with hx | hx
 ·rcases vaF_or y with hy | hy
  ·exact absurd ⟨hx, hy⟩ h
  ·exact Ev_b hx.2.2 (Ev_t rfl (Ev_b hy.2 (Ev_f (by decide) (Ev_n rfl))))
 ·exact Ev_b hx.2 (Ev_f (by decide) (Ev_n rfl))
theorem insr_pw (D : Nat → Int) (x : Nat) : ∀ r : List Nat, r.Pairwise (fun a b => D b ≤ D a) → (insr D x r).Pairwise (fun a b => D b ≤ D a)
 | [], _ => by simp [insr]
 | y :: r, h => by
  have hy := List.pairwise_cons.1 h
  unfold insr
  by_cases c : D x < D y
  rotate_left
  ·rw [if_neg c]
   refine List.pairwise_cons.2 ⟨fun z hz => ?_, h⟩
   rcases List.mem_cons.1 hz with rfl | g
   ·omega
   ·have := hy.1 z g; omega
  rw [if_pos c]
  refine List.pairwise_cons.2 ⟨fun z hz => ?_, insr_pw D x r hy.2⟩
  rcases (insr_mem D x z r).1 hz with rfl | g
  ·omega
  ·exact hy.1 z g
theorem ranks_pw (D : Nat → Int) : ∀ n, (ranks D n).Pairwise (fun a b => D b ≤ D a)
 | 0 => List.Pairwise.nil
 | n + 1 => insr_pw D n _ (ranks_pw D n)
theorem insr_nd (D : Nat → Int) (x : Nat) : ∀ r : List Nat, r.Nodup → x ∉ r → (insr D x r).Nodup
 | [], _, _ => by simp [insr]
 | y :: r, h, hx => by
  have hy := List.nodup_cons.1 h
  unfold insr
  by_cases c : D x < D y
  rotate_left
  ·rw [if_neg c]
   exact List.nodup_cons.2 ⟨hx, h⟩
  rw [if_pos c]
  refine List.nodup_cons.2 ⟨fun hz => ?_, insr_nd D x r hy.2 (fun g => hx (List.mem_cons_of_mem _ g))⟩
  rcases (insr_mem D x y r).1 hz with rfl | g
  ·exact hx (List.mem_cons_self ..)
  ·exact hy.1 g
theorem ranks_nd (D : Nat → Int) : ∀ n, (ranks D n).Nodup
 | 0 => List.nodup_nil
 | n + 1 => insr_nd D n _ (ranks_nd D n) (fun h => by have := (ranks_mem D n n).1 h; omega)
theorem u8s_of {l : List Int} (hl : ¬ (l.length : Int) > 1048576) (hw : ∀ x ∈ l, (Lit.int .u8 x).wf = true) : u8s l := by
 refine ⟨by omega, fun x hx => ?_⟩
 have h := hw x hx
 simp only [Lit.wf, Bool.and_eq_true, decide_eq_true_eq] at h
 have e1 : IntKind.u8.min = 0 := by decide
 have e2 : IntKind.u8.max = 255 := by decide
 omega
theorem okF_each (m : List Fe) (hl : (m.length : Int) ≤ 1048576) : ∀ (d i k : Nat), i + d = m.length → aV_.l0 k m i = some true → ∀ j (hj : j < m.length), i ≤ j → ∃ k', k ≤ k' + (j - i) + 1 ∧ aB_.f k' [m[j]] = some true := by
 intro d
 induction d with
 | zero => intro i k h1 h j hj h2; omega
 | succ d ih =>
  intro i k h1 h j hj h2
  cases k with
  | zero => simp [aV_.l0] at h
  | succ k =>
   simp only [aV_.l0] at h
   rw [if_pos (by omega), if_pos (by omega), rdF_in m i (by omega)] at h
   obtain ⟨t, ht, h⟩ := Option.bind_eq_some_iff.1 h
   cases t with
   | false => simp at h
   | true =>
    rw [if_pos rfl, wr64s i (by omega)] at h
    by_cases hji : j = i
    rotate_left
    ·by_cases hi : (i : Int) > 0
     rotate_left
     ·rw [if_neg hi] at h
      obtain ⟨k', g1, g2⟩ := ih (i + 1) k (by omega) h j hj (by omega)
      exact ⟨k', by omega, g2⟩
     rw [if_pos hi] at h
     split at h
     ·split at h
      ·split at h
       ·obtain ⟨k', g1, g2⟩ := ih (i + 1) k (by omega) h j hj (by omega)
        exact ⟨k', by omega, g2⟩
       ·simp at h
      ·cases h
     ·cases h
    subst hji; exact ⟨k, by omega, ht⟩
theorem validF_each {m : List Fe} (hl : (m.length : Int) ≤ 1048576) (h : Ev (fun k => aV_.f k m) true) : ∀ y ∈ m, vaF y := by
 intro y hy
 obtain ⟨j, hj, rfl⟩ := List.mem_iff_getElem.1 hy
 obtain ⟨K, hK⟩ := h
 have h1 := hK (K + m.length + 50) (by omega)
 simp only [aV_.f] at h1
 obtain ⟨k', hk1, hk'⟩ := okF_each m hl m.length 0 _ (by omega) h1 j hj (by omega)
 obtain ⟨b, hb, hk⟩ := valid_ev m[j].f0 m[j].f1
 have e := (hk k' (by omega)).1
 have e2 : aB_.f k' [(⟨m[j].f0, m[j].f1⟩ : Fe)] = some true := hk'
 rw [e2] at e
 obtain rfl : b = true := (Option.some.inj e).symm
 exact ⟨hb rfl, Ev_all (fun k h => (hk k h).1), Ev_all (fun k h => (hk k h).2)⟩
theorem nums_ev (l m : List Int) (hl : (l.length : Int) ≤ 1048576) : Ev (fun k => bz_.f k l m) (decide (l = m)) := by
 simp only [bz_.f]
 by_cases h : (l.length : Int) = (m.length : Int)
 rotate_left
 ·refine Ev_f h (Ev_n ?_)
  symm
  refine decide_eq_false (fun e => h (by rw [e]))
 refine Ev_t h ?_
 have go : ∀ (d i : Nat), i + d = l.length → Ev (fun k => bz_.l0 k l m i) (decide (l.drop i = m.drop i)) := by
  intro d
  induction d with
  | zero =>
   intro i hi
   refine bw_ ?_
   simp only [bz_.l0]
   rw [List.drop_of_length_le (by omega), List.drop_of_length_le (by omega)]
   exact Ev_f (by omega) (Ev_n (by simp))
  | succ d ih =>
   intro i hi
   refine bw_ ?_
   simp only [bz_.l0]
   rw [rd_nat l i (by omega), rd_nat m i (by omega), wr64s i (by omega), List.drop_eq_getElem_cons (show i < l.length by omega), List.drop_eq_getElem_cons (show i < m.length by omega)]
   refine Ev_t (by omega) (Ev_t (by omega) (Ev_t (by omega) ?_))
   by_cases e : l[i] = m[i]'(by omega)
   rotate_left
   ·exact Ev_f e (Ev_n (by simp only [List.cons.injEq, e, false_and, decide_false]))
   refine Ev_t e (Ev_at (ih (i + 1) (by omega)) ?_)
   simp only [List.cons.injEq, e, true_and]
 simpa using go l.length 0 (by omega)
theorem has_ev (l : List Int) (x : Int) (hl : (l.length : Int) ≤ 1048576) (hx : x ∉ l) : Ev (fun k => bF_.f k l x) false := by
 have go : ∀ (d i : Nat), i + d = l.length → Ev (fun k => bF_.l0 k l x i) false := by
  intro d
  induction d with
  | zero => intro i hi; refine bw_ ?_; simp only [bF_.l0]; exact Ev_f (by omega) (Ev_n rfl)
  | succ d ih =>
   intro i hi
   refine bw_ ?_
   simp only [bF_.l0]
   rw [rd_nat l i (by omega), wr64s i (by omega)]
   exact Ev_t (by omega) (Ev_t (by omega) (Ev_f (fun e => hx (by rw [← e]; exact List.getElem_mem _)) (ih (i + 1) (by omega))))
 simp only [bF_.f]
 exact go l.length 0 (by omega)
theorem law_Features : ac_.Pure := by
 intro l0 l1 _ _ hw0 _ _ hw1
 suffices hs : Ev (fun k => ac_.f k l0 l1) true from hs.rounds
 simp only [ac_.f]
 have out : Ev (fun k => ac_.j0 k l0 l1 true) true := by refine bw_ ?_; simp only [ac_.j0]; exact Ev_t (by trivial) (Ev_n rfl)
 by_cases c0 : (l0.length : Int) > 1048576
 ·exact Ev_b (a := true) (Ev_c (by unfold bI_.f; rw [decide_eq_true c0])) (Ev_t rfl out)
 refine Ev_b (a := false) (Ev_c (by unfold bI_.f; rw [decide_eq_false c0])) (Ev_f (by decide) ?_)
 by_cases c1 : (l1.length : Int) > 1048576
 ·exact Ev_b (a := true) (Ev_c (by unfold bI_.f; rw [decide_eq_true c1])) out
 refine Ev_b (a := false) (Ev_c (by unfold bI_.f; rw [decide_eq_false c1])) (bw_ ?_)
 simp only [ac_.j0]
 obtain ⟨x, y, eD, hx, hy⟩ := pairF_draw l0 (u8s_of c0 hw0)
 obtain ⟨m, f, eR, hm, hf⟩ := rankF_draw l1 (u8s_of c1 hw1)
 have hml := hm.1
 refine Ev_f (by decide) (Ev_b eD (Ev_b eR ?_))
 have three : Ev (fun k => ac_.j3 k m f.f0 f.f1) true := by
  refine bw_ ?_
  simp only [ac_.j3]
  obtain ⟨b, _, hbk⟩ := validS_ev m (by omega)
  have b1 : Ev (fun k => aV_.f k m) b := Ev_all (fun k h => (hbk k h).1)
  have b2 : Ev (fun k => an_.f k m) b := Ev_all (fun k h => (hbk k h).2)
  by_cases hok : b = true ∧ vaF f
  case neg =>
   refine Ev_b (a := ([], 1)) ?_ (Ev_f (by simp) (Ev_n rfl))
   simp only [al_.f]
   cases b with
   | false => exact Ev_b b2 (Ev_f (by decide) (bw_ (by simp only [al_.j0]; exact Ev_t (by simp) (Ev_n rfl))))
   | true =>
    rcases vaF_or f with g | g
    ·exact absurd ⟨rfl, g⟩ hok
    ·exact Ev_b b2 (Ev_t rfl (Ev_b g.2 (bw_ (by simp only [al_.j0]; exact Ev_t (by simp) (Ev_n rfl)))))
  obtain ⟨rfl, vf⟩ := hok
  have vm := validF_each (by omega) b1
  obtain ⟨r0, r1, _, _, e2, hr1, b', b1', _, c', cc, _, hr⟩ := ranked_ev m (by omega) f (by omega)
  have hb' : b' = true := Ev_one b1' b1
  have hc' : c' = true := Ev_one cc vf.2.1
  subst hb' hc'
  rw [if_pos ⟨rfl, rfl⟩] at hr
  subst hr
  obtain ⟨h16, _, _, D, hD, rfl⟩ := hr1 rfl
  have hDs : ∀ i (h : i < m.length), D i = ds m[i].f1 f.f1 := fun i h => Ev_one (hD i h).2.2.2 (dist_ev m[i] f (vm _ (List.getElem_mem h)).1 vf.1).1
  have ul : (up (ranks D m.length)).length = m.length := by rw [up_len, bW_]
  refine Ev_b e2 (Ev_t rfl ?_)
  by_cases h0 : m.length = 0
  ·have n0 : Ev (fun k => aC_.f k m f.f0 f.f1) (0, 0, 3) := by
    simp only [aC_.f]
    refine Ev_b e2 (Ev_t rfl (bw_ ?_))
    simp only [aC_.j0]
    exact Ev_t (by simp [h0]) (Ev_n rfl)
   refine Ev_b n0 (Ev_t (by dsimp only; omega) (bw_ ?_))
   simp only [ac_.j4]
   refine Ev_f (by simp [h0]) (bw_ ?_)
   simp only [ac_.l0]
   exact Ev_f (by omega) (Ev_n rfl)
  have at_ : ∀ i (h : i < m.length), ∃ z, z < m.length ∧ rd (up (ranks D m.length)) (i : Int) = (z : Int) ∧ (up (ranks D m.length))[i]'(by omega) = (z : Int) ∧ (ranks D m.length)[m.length - 1 - i]'(by rw [bW_]; omega) = z := by
   intro i h
   have e : (up (ranks D m.length))[i]'(by omega) = (((ranks D m.length)[m.length - 1 - i]'(by rw [bW_]; omega) : Nat) : Int) := by
    unfold up
    rw [List.getElem_map, List.getElem_reverse]
    simp only [bW_]
   refine ⟨_, (ranks_mem D m.length _).1 (List.getElem_mem (by rw [bW_]; omega)), ?_, e, rfl⟩
   rw [rd_nat _ i (by omega), e]
  obtain ⟨z0, hz0, q0, _, w0⟩ := at_ 0 (by omega)
  have n0 : Ev (fun k => aC_.f k m f.f0 f.f1) ((z0 : Int), D z0, 0) := by
   simp only [aC_.f]
   refine Ev_b e2 (Ev_t rfl (bw_ ?_))
   simp only [aC_.j0]
   rw [show rd (up (ranks D m.length)) 0 = (z0 : Int) from q0, rdF_in m z0 hz0]
   have hm0 : ((m.length : Int) == 0) = false := beq_eq_false_iff_ne.2 (by omega)
   exact Ev_f (by rw [hm0]; decide) (Ev_t (by trivial) (Ev_t (by omega) (Ev_t (by omega) (Ev_t (by omega) (Ev_b (hD z0 hz0).2.2.2 (Ev_n rfl))))))
  refine Ev_b n0 (Ev_t (by dsimp only; omega) (bw_ ?_))
  simp only [ac_.j4]
  refine Ev_f (by rw [decide_eq_true (show ((m.length : Int) > 0) by omega)]; decide) ?_
  have go : ∀ (d i : Nat) (last : Int), i + d = m.length → (∀ (h : i < m.length) z, (ranks D m.length)[m.length - 1 - i]'(by rw [bW_]; omega) = z → last ≤ D z) → Ev (fun k => ac_.l0 k m (up (ranks D m.length)) (z0 : Int) (D z0) last i f.f0 f.f1) true := by
   intro d
   induction d with
   | zero =>
    intro i last h hlast
    refine bw_ ?_
    simp only [ac_.l0]
    exact Ev_f (by omega) (Ev_n rfl)
   | succ d ih =>
    intro i last h hlast
    obtain ⟨z, hz, q1, q2, q3⟩ := at_ i (by omega)
    refine bw_ ?_
    simp only [ac_.l0]
    rw [q1]
    have nd : ((z : Int)) ∉ (up (ranks D m.length)).take (i : Int).toNat := by
     intro g
     obtain ⟨j, hj, e⟩ := List.mem_iff_getElem.1 g
     have hj2 : j < i := by simp at hj; omega
     rw [List.getElem_take] at e
     obtain ⟨z', _, _, e2, e3⟩ := at_ j (by omega)
     rw [e2] at e
     have ez : z' = z := by omega
     have ne := (List.pairwise_iff_getElem.1 (ranks_nd D m.length)) (m.length - 1 - i) (m.length - 1 - j) (by rw [bW_]; omega) (by rw [bW_]; omega) (by omega)
     exact ne (by rw [q3, e3, ez])
    refine Ev_t (by omega) (Ev_t (by omega) (Ev_f (by omega) (Ev_f (by omega) (Ev_t (by omega) (Ev_b (has_ev _ _ (by simp; omega) nd) (bw_ ?_))))))
    simp only [ac_.j6]
    rw [q1, rdF_in m z hz, wr64s i (by omega)]
    have e9 : Ev (fun k => ar_.f k m[z].f0 m[z].f1 f.f0 f.f1) (D z, 0) := by rw [hDs z hz]; exact fd_ok (vm _ (List.getElem_mem hz)) vf
    have lz := hlast (by omega) z q3
    have nx := ih (i + 1) (D z) (by omega) (fun h' z' e3 => by
     have pw := (List.pairwise_iff_getElem.1 (ranks_pw D m.length)) (m.length - 1 - (i + 1)) (m.length - 1 - i) (by rw [bW_]; omega) (by rw [bW_]; omega) (by omega)
     rw [q3, e3] at pw
     exact pw)
    refine Ev_f (by decide) (Ev_t (by omega) (Ev_t (by omega) (Ev_t (by omega) (Ev_t (by omega) (Ev_b e9 (Ev_t rfl (Ev_f (by dsimp only; omega) ?_)))))))
    by_cases hi : i = 0
    rotate_left
    ·exact Ev_f (by omega) nx
    subst hi
    have ez : z = z0 := by rw [← q3, ← w0]
    subst ez
    exact Ev_t rfl (Ev_t rfl (Ev_t rfl nx))
  exact go m.length 0 0 (by omega) (fun h z e => by
   have hz : z < m.length := by rw [← e]; exact (ranks_mem D m.length _).1 (List.getElem_mem (by rw [bW_]; omega))
   exact (hD z hz).1)
 by_cases hv : vaF x ∧ vaF y
 rotate_left
 ·have hv2 : ¬ (vaF y ∧ vaF x) := fun g => hv ⟨g.2, g.1⟩
  refine Ev_b (fd_no hv) (Ev_b (fd_no hv2) (Ev_t rfl (bw_ ?_)))
  simp only [ac_.j1]
  refine Ev_f (by decide) (Ev_f (by decide) (bw_ ?_))
  simp only [ac_.j2]
  exact Ev_f (by decide) three
 obtain ⟨vx, vy⟩ := hv
 have e2 := fd_ok vy vx
 rw [ds_symm] at e2
 refine Ev_b (fd_ok vx vy) (Ev_b e2 (Ev_t rfl (bw_ ?_)))
 simp only [ac_.j1]
 refine Ev_f (by simp) (Ev_t (by trivial) ?_)
 obtain ⟨lx, ox⟩ := vx.1
 obtain ⟨ly, oy⟩ := vy.1
 rcases vaF_or f with vf | nf
 ·obtain ⟨lf, of_⟩ := vf.1
  refine Ev_b (a := true) (by simp only [bO_.f]; exact Ev_b vf.2.1 (Ev_n rfl)) (bw_ ?_)
  simp only [ac_.j2]
  have t := ds_tri x.f1 f.f1 y.f1 (by omega) (by omega)
  have b1 := (dist_ev x f vx.1 vf.1).2
  have b2 := (dist_ev f y vf.1 vy.1).2
  have zz := ds_zero x.f1 y.f1 (by omega)
  refine Ev_t (by trivial) (Ev_b (fd_ok vx vf) (Ev_b (fd_ok vf vy) (Ev_t rfl (Ev_t rfl (Ev_f ?_ (Ev_b (nums_ev x.f1 y.f1 (by omega)) (Ev_f ?_ three)))))))
  ·dsimp only
   rw [wr64 (by omega) (by omega)]
   omega
  ·by_cases h : x.f1 = y.f1
   ·simp [h, zz.2 h]
    have := zz.2 h
    rw [h] at this
    simp [this]
   ·have h2 : ¬ ds x.f1 y.f1 = 0 := fun e => h (zz.1 e)
    simp [h, h2]
 ·refine Ev_b (a := false) (by simp only [bO_.f]; exact Ev_b nf.1 (Ev_n rfl)) (bw_ ?_)
  simp only [ac_.j2]
  exact Ev_f (by decide) three
end Go.Proofs.Yteafahnopgmgoaa.Q
namespace Go.Proofs.Yteafahnopgmgoaa.Pure
open Go.Proofs.Yteafahnopgmgoaa.Q
theorem FnFeatures : ac_.Pure := law_Features
end Go.Proofs.Yteafahnopgmgoaa.Pure
namespace Go.Proofs.YteafahnopgmgoaaW.PrintWords
open Go.ChangeShapes Go.WideShapes
theorem sized_ints {H : Type} {enc : TypeId × Value → H} {P : Program} {W : World} {base : Nat} {spare : Nat → Bool} {held : Bool} {t e : TypeId} {k : IntKind} {a : Option Addr} {len cap : Nat} {d : DataW H} {ps : List MemPlace} {ts : List TypeId} {ds : List (DataW H)} {j : Nat}
  (hsz : (DataW.weightsEach P ts ds).all (· ≤ reachBytes) = true) (ht : ts[j]? = some t) (hd : ds[j]? = some d) (hu : P.underlying t = some (.slice e)) (he : P.underlying e = some (.int k)) (hc : P.cellsOf e = 1) {B : Nat} (hB : P.bytesOf e = B)
  (h : DataW.Trod enc P W base spare held t (.slice a len cap) d ps) : len * B ≤ 140737488351232 := by
 obtain ⟨fuel, hf⟩ := h
 rcases open_ints hu he hc hf with ⟨hcs, _⟩ | ⟨x, l, c, zs, hcs, _, hl, _, hz, hx, _, _⟩
 ·simp [Value.cells] at hcs
  obtain ⟨rfl, rfl, rfl⟩ := hcs
  simp
 ·simp [Value.cells] at hcs
  obtain ⟨rfl, rfl, rfl⟩ := hcs
  obtain ⟨hx, _⟩ := Prod.mk.inj hx
  subst hx
  have z := sized_slice hsz ht hd hu
  rw [hB] at z
  have hl2 : len ≤ zs.length := by
   rw [hz]
   split
   ·exact hl
   ·exact Nat.le_refl _
  have h1 : (lits (H := H) k (zs.take len)).length + (lits (H := H) k (zs.drop len)).length = zs.length := by
   simp [lits]
   omega
  rw [h1] at z
  exact Nat.le_trans (Nat.mul_le_mul_right _ hl2) z
end Go.Proofs.YteafahnopgmgoaaW.PrintWords
namespace Go.Proofs.Yteafahnopgmgoaa.fnFeatures
open Go.ChangeShapes Go.WideShapes Go.ChangeAt Go.RowKit
open Go.ChangeMaps (open_string shut_string)
theorem own : ownKnob Try.prog.godebug = none := by kernel_rfl
theorem laidOut : laidOutB Try.prog = true := by kernel_rfl
def IsRow (k : IntKind) (w : World) (a : Option Addr) (len cap : Nat) (zs : List Int) : Prop :=
 (a = none ∧ len = 0 ∧ cap = 0 ∧ zs = []) ∨
 ∃ x, a = some x ∧ len ≤ cap ∧ cap ≤ maxLen ∧ zs.length = cap ∧ (∀ i, i < zs.length → w.cell? (x.add i) = some (.int k (zs.getD i 0))) ∧ ∀ n ∈ zs, (Lit.int k n).wf = true
set_option maxRecDepth 100000 in
theorem lifted (os : Os) (started : os.Started) (H : Type) (enc : TypeId × Value → H) :
  ReturnsInHanded {} Try.checked os 8 .any (Rows.fnFeaturesSpec.pre6 enc Try.prog Try.f8 Rows.fnFeaturesRow.domain false) (Rows.fnFeaturesSpec.post enc Try.prog Try.f8 false true false false) := by
 refine returnsInHanded_of_change_sized (C := Try.checked) own started (by kernel_rfl) Try.func8
  (ChangeSpec.witness6 (enc := enc) (C := Try.checked) false ⟨#[], #[.slice none 0 0, .slice none 0 0], []⟩ 8 (by kernel_rfl) (by kernel_rfl) (by kernel_rfl) (by kernel_rfl)) ?_
 intro W base args ds gs before hval0 hW hcnd hsz0 _
 have hsz : (DataW.weightsEach Try.prog (Try.f8.params.toList ++ Rows.fnFeaturesSpec.plain.varTypes Try.prog) (ds ++ gs)).all (· ≤ reachBytes) = true := hsz0
 have hval : ∀ (j : Nat) t v, Try.f8.params[j]? = some t → args[j]? = some v → Value.okWide Try.prog W .any base t v := hval0
 have hW' := hW
 obtain ⟨p, q, hA0, hV, rfl, hfz, hnd⟩ := hW
 have hA : DataW.TrodAll enc Try.prog W 0 (fun _ => true) true Try.f8.params.toList args.toList ds p := hA0
 rw [Try.params8] at hA hval hsz
 obtain ⟨v0, vs0, d0, ds0, p0, q0, hargs, rfl, rfl, h0, r0⟩ := trodAll_cons hA
 obtain ⟨v1, vs1, d1, ds1, p1, q1, rfl, rfl, rfl, h1, r1⟩ := trodAll_cons r0
 obtain ⟨rfl, rfl, rfl⟩ := trodAll_nil r1
 obtain rfl : args = #[v0, v1] := by cases args; simp_all
 obtain ⟨rfl, rfl⟩ := trodVars_none hV
 obtain ⟨a0, len0, cap0, rfl⟩ := okWide_slice Try.underlying55 (hval 0 55 v0 rfl rfl)
 have k0 := h0
 have lt0 : ∀ x ∈ p0, x.block < W.heap.size := by obtain ⟨m, hm⟩ := k0; exact DataW.trod_lt m _ _ _ hm
 obtain ⟨z0, w0⟩ : ∃ zs, IsRow .u8 W a0 len0 cap0 zs := by
  obtain ⟨fuel, hf⟩ := h0
  rcases open_ints Try.underlying55 Try.underlying5 (by kernel_rfl) hf with ⟨hcs, _⟩ | ⟨x, l, c, zs, hcs, _, hl, hm, hz, _, hcell, hwz⟩
  ·simp [Value.cells] at hcs
   obtain ⟨rfl, rfl, rfl⟩ := hcs
   exact ⟨[], .inl ⟨rfl, rfl, rfl, rfl⟩⟩
  ·simp [Value.cells] at hcs
   obtain ⟨rfl, rfl, rfl⟩ := hcs
   exact ⟨zs, .inr ⟨_, rfl, hl, hm, by simpa using hz, hcell, hwz⟩⟩
 have y0 : len0 * 1 ≤ 140737488351232 := Go.Proofs.YteafahnopgmgoaaW.PrintWords.sized_ints hsz (j := 0) (t := 55) rfl rfl Try.underlying55 Try.underlying5 (by kernel_rfl) (by kernel_rfl) h0
 obtain ⟨a1, len1, cap1, rfl⟩ := okWide_slice Try.underlying55 (hval 1 55 v1 rfl rfl)
 have k1 := h1
 have lt1 : ∀ x ∈ p1, x.block < W.heap.size := by obtain ⟨m, hm⟩ := k1; exact DataW.trod_lt m _ _ _ hm
 obtain ⟨z1, w1⟩ : ∃ zs, IsRow .u8 W a1 len1 cap1 zs := by
  obtain ⟨fuel, hf⟩ := h1
  rcases open_ints Try.underlying55 Try.underlying5 (by kernel_rfl) hf with ⟨hcs, _⟩ | ⟨x, l, c, zs, hcs, _, hl, hm, hz, _, hcell, hwz⟩
  ·simp [Value.cells] at hcs
   obtain ⟨rfl, rfl, rfl⟩ := hcs
   exact ⟨[], .inl ⟨rfl, rfl, rfl, rfl⟩⟩
  ·simp [Value.cells] at hcs
   obtain ⟨rfl, rfl, rfl⟩ := hcs
   exact ⟨zs, .inr ⟨_, rfl, hl, hm, by simpa using hz, hcell, hwz⟩⟩
 have y1 : len1 * 1 ≤ 140737488351232 := Go.Proofs.YteafahnopgmgoaaW.PrintWords.sized_ints hsz (j := 1) (t := 55) rfl rfl Try.underlying55 Try.underlying5 (by kernel_rfl) (by kernel_rfl) h1
 clear hA0 hval0 hsz0 hsz
 refine (Q.ac_.walk Pure.FnFeatures a0 len0 cap0 z0 a1 len1 cap1 z1 W w0 y0 w1 y1).mono fun e W' ⟨he, bel⟩ => ?_
 subst he
 exact ⟨_, rfl, _, _, _, [], _, [], hW', trodAll_mk1 (shut_bool Try.underlying4 _), (trodAll_cons_mk (Below.trod laidOut (by kernel_rfl) (of_decide_eq_true (by kernel_rfl)) k0 bel lt0) (trodAll_cons_mk (Below.trod laidOut (by kernel_rfl) (of_decide_eq_true (by kernel_rfl)) k1 bel lt1) trodAll_mk0)), rfl, bel.frame _, fun h => by cases h⟩
theorem over : Rows.fnFeaturesRow.holds Try.pinned (OpenSpec.ofChange Rows.fnFeaturesSpec) :=
 OpenClaim.holds_of_wide 8 Try.f8 rfl rfl rfl rfl rfl rfl rfl ⟨rfl, rfl, rfl, rfl, rfl⟩ rfl rfl rfl rfl rfl (by kernel_rfl) Try.func8 (by kernel_rfl)
  (of_decide_eq_true (by kernel_rfl)) (by unfold Func.isWrapper; first | (rw [if_pos (by decide +kernel)]; kernel_rfl) | (rw [if_neg (by decide +kernel)]; exact ⟨rfl, rfl⟩))
  (fun os started H enc _ => lifted os started H enc)
theorem proved : Rows.FnFeaturesSaid := over
#print axioms proved
end Go.Proofs.Yteafahnopgmgoaa.fnFeatures
namespace Go.Proofs.Yteafahnopgmgoaa
theorem fnFeatures_holds : Rows.FnFeaturesSaid := fnFeatures.proved
end Go.Proofs.Yteafahnopgmgoaa
