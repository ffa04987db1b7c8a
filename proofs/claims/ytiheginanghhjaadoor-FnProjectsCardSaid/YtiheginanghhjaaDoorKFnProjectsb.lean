/- changes lead from one state to the other, undoing gives the state before, versions come from earlier ones This text holds the functions' walks and the words for them. -/
import Derived.Test.YtiheginanghhjaaDoorKFnProjectsa
set_option linter.unusedVariables false
set_option linter.unusedSimpArgs false
namespace Go.Proofs.YtiheginanghhjaaDoor.Q
open Go.RowKit Go.Proofs.YtiheginanghhjaaDoorW.PrintWords Go.Proofs.YtiheginanghhjaaDoorW.PrintLast Go.Proofs.YtiheginanghhjaaDoorW.PrintMore
attribute [local go_sem] aJ_ aI_ aW_ aX_ az_ aA_ aG_ aH_
def cB_.f  : Option ((List (List Int))) := some (([(([20, 40, 310] : List Int)), (([35, 45, 410] : List Int)), (([15, 33, 280] : List Int)), (([50, 36, 240] : List Int)), (([95, 85, 270] : List Int)), (([5, 35, 370] : List Int)), (([10, 42, 290] : List Int)), (([40, 40, 330] : List Int)), (([80, 60, 220] : List Int)), (([70, 38, 260] : List Int))] : List (List Int)))
set_option maxHeartbeats 8000000 in
set_option maxRecDepth 100000 in
theorem cB_.calls  (r : List (List Int)) (w : World) (h : cB_.f  = some r) :
  Calls Tryd.prog 68 #[] w fun e w' => ∃ v0_ : Value, e = .returned (v0_) ∧ Kd.N (Kd.slice 2 (Kd.int .i64)) 39 w' w.heap.size (fun k_ => (w.heap.size ≤ k_)) v0_ r ∧ Below w.heap.size w w' := by
 have HB := Aside0.mk (Below.refl w.heap.size w)
 have H : (some (([(([20, 40, 310] : List Int)), (([35, 45, 410] : List Int)), (([15, 33, 280] : List Int)), (([50, 36, 240] : List Int)), (([95, 85, 270] : List Int)), (([5, 35, 370] : List Int)), (([10, 42, 290] : List Int)), (([40, 40, 330] : List Int)), (([80, 60, 220] : List Int)), (([70, 38, 260] : List Int))] : List (List Int)))) = some r := h
 clear h
 obtain ⟨y101, hy101⟩ : ∃ y_ : List Int, y_ = (([20, 40, 310] : List Int)) := ⟨_, rfl⟩
 replace H : (some (([y101, (([35, 45, 410] : List Int)), (([15, 33, 280] : List Int)), (([50, 36, 240] : List Int)), (([95, 85, 270] : List Int)), (([5, 35, 370] : List Int)), (([10, 42, 290] : List Int)), (([40, 40, 330] : List Int)), (([80, 60, 220] : List Int)), (([70, 38, 260] : List Int))] : List (List Int)))) = some r := by first | (rw [hy101]; with_reducible exact H) | (have H2_ := (Option.bind_some _ _).symm.trans H; rw [hy101]; with_reducible exact H2_) | (have H2_ := (Option.bind_some _ _).symm.trans H; with_reducible exact H2_) | with_reducible exact H | (rw [hy101]; exact H) | exact H
 have Ny101 := Aside0.mk hy101
 clear hy101
 obtain ⟨y104, hy104⟩ : ∃ y_ : List Int, y_ = (([35, 45, 410] : List Int)) := ⟨_, rfl⟩
 replace H : (some (([y101, y104, (([15, 33, 280] : List Int)), (([50, 36, 240] : List Int)), (([95, 85, 270] : List Int)), (([5, 35, 370] : List Int)), (([10, 42, 290] : List Int)), (([40, 40, 330] : List Int)), (([80, 60, 220] : List Int)), (([70, 38, 260] : List Int))] : List (List Int)))) = some r := by first | (rw [hy104]; with_reducible exact H) | (have H2_ := (Option.bind_some _ _).symm.trans H; rw [hy104]; with_reducible exact H2_) | (have H2_ := (Option.bind_some _ _).symm.trans H; with_reducible exact H2_) | with_reducible exact H | (rw [hy104]; exact H) | exact H
 have Ny104 := Aside0.mk hy104
 clear hy104
 obtain ⟨y107, hy107⟩ : ∃ y_ : List Int, y_ = (([15, 33, 280] : List Int)) := ⟨_, rfl⟩
 replace H : (some (([y101, y104, y107, (([50, 36, 240] : List Int)), (([95, 85, 270] : List Int)), (([5, 35, 370] : List Int)), (([10, 42, 290] : List Int)), (([40, 40, 330] : List Int)), (([80, 60, 220] : List Int)), (([70, 38, 260] : List Int))] : List (List Int)))) = some r := by first | (rw [hy107]; with_reducible exact H) | (have H2_ := (Option.bind_some _ _).symm.trans H; rw [hy107]; with_reducible exact H2_) | (have H2_ := (Option.bind_some _ _).symm.trans H; with_reducible exact H2_) | with_reducible exact H | (rw [hy107]; exact H) | exact H
 have Ny107 := Aside0.mk hy107
 clear hy107
 obtain ⟨y110, hy110⟩ : ∃ y_ : List Int, y_ = (([50, 36, 240] : List Int)) := ⟨_, rfl⟩
 replace H : (some (([y101, y104, y107, y110, (([95, 85, 270] : List Int)), (([5, 35, 370] : List Int)), (([10, 42, 290] : List Int)), (([40, 40, 330] : List Int)), (([80, 60, 220] : List Int)), (([70, 38, 260] : List Int))] : List (List Int)))) = some r := by first | (rw [hy110]; with_reducible exact H) | (have H2_ := (Option.bind_some _ _).symm.trans H; rw [hy110]; with_reducible exact H2_) | (have H2_ := (Option.bind_some _ _).symm.trans H; with_reducible exact H2_) | with_reducible exact H | (rw [hy110]; exact H) | exact H
 have Ny110 := Aside0.mk hy110
 clear hy110
 obtain ⟨y113, hy113⟩ : ∃ y_ : List Int, y_ = (([95, 85, 270] : List Int)) := ⟨_, rfl⟩
 replace H : (some (([y101, y104, y107, y110, y113, (([5, 35, 370] : List Int)), (([10, 42, 290] : List Int)), (([40, 40, 330] : List Int)), (([80, 60, 220] : List Int)), (([70, 38, 260] : List Int))] : List (List Int)))) = some r := by first | (rw [hy113]; with_reducible exact H) | (have H2_ := (Option.bind_some _ _).symm.trans H; rw [hy113]; with_reducible exact H2_) | (have H2_ := (Option.bind_some _ _).symm.trans H; with_reducible exact H2_) | with_reducible exact H | (rw [hy113]; exact H) | exact H
 have Ny113 := Aside0.mk hy113
 clear hy113
 obtain ⟨y116, hy116⟩ : ∃ y_ : List Int, y_ = (([5, 35, 370] : List Int)) := ⟨_, rfl⟩
 replace H : (some (([y101, y104, y107, y110, y113, y116, (([10, 42, 290] : List Int)), (([40, 40, 330] : List Int)), (([80, 60, 220] : List Int)), (([70, 38, 260] : List Int))] : List (List Int)))) = some r := by first | (rw [hy116]; with_reducible exact H) | (have H2_ := (Option.bind_some _ _).symm.trans H; rw [hy116]; with_reducible exact H2_) | (have H2_ := (Option.bind_some _ _).symm.trans H; with_reducible exact H2_) | with_reducible exact H | (rw [hy116]; exact H) | exact H
 have Ny116 := Aside0.mk hy116
 clear hy116
 obtain ⟨y119, hy119⟩ : ∃ y_ : List Int, y_ = (([10, 42, 290] : List Int)) := ⟨_, rfl⟩
 replace H : (some (([y101, y104, y107, y110, y113, y116, y119, (([40, 40, 330] : List Int)), (([80, 60, 220] : List Int)), (([70, 38, 260] : List Int))] : List (List Int)))) = some r := by first | (rw [hy119]; with_reducible exact H) | (have H2_ := (Option.bind_some _ _).symm.trans H; rw [hy119]; with_reducible exact H2_) | (have H2_ := (Option.bind_some _ _).symm.trans H; with_reducible exact H2_) | with_reducible exact H | (rw [hy119]; exact H) | exact H
 have Ny119 := Aside0.mk hy119
 clear hy119
 obtain ⟨y122, hy122⟩ : ∃ y_ : List Int, y_ = (([40, 40, 330] : List Int)) := ⟨_, rfl⟩
 replace H : (some (([y101, y104, y107, y110, y113, y116, y119, y122, (([80, 60, 220] : List Int)), (([70, 38, 260] : List Int))] : List (List Int)))) = some r := by first | (rw [hy122]; with_reducible exact H) | (have H2_ := (Option.bind_some _ _).symm.trans H; rw [hy122]; with_reducible exact H2_) | (have H2_ := (Option.bind_some _ _).symm.trans H; with_reducible exact H2_) | with_reducible exact H | (rw [hy122]; exact H) | exact H
 have Ny122 := Aside0.mk hy122
 clear hy122
 obtain ⟨y125, hy125⟩ : ∃ y_ : List Int, y_ = (([80, 60, 220] : List Int)) := ⟨_, rfl⟩
 replace H : (some (([y101, y104, y107, y110, y113, y116, y119, y122, y125, (([70, 38, 260] : List Int))] : List (List Int)))) = some r := by first | (rw [hy125]; with_reducible exact H) | (have H2_ := (Option.bind_some _ _).symm.trans H; rw [hy125]; with_reducible exact H2_) | (have H2_ := (Option.bind_some _ _).symm.trans H; with_reducible exact H2_) | with_reducible exact H | (rw [hy125]; exact H) | exact H
 have Ny125 := Aside0.mk hy125
 clear hy125
 obtain ⟨y128, hy128⟩ : ∃ y_ : List Int, y_ = (([70, 38, 260] : List Int)) := ⟨_, rfl⟩
 replace H : (some (([y101, y104, y107, y110, y113, y116, y119, y122, y125, y128] : List (List Int)))) = some r := by first | (rw [hy128]; with_reducible exact H) | (have H2_ := (Option.bind_some _ _).symm.trans H; rw [hy128]; with_reducible exact H2_) | (have H2_ := (Option.bind_some _ _).symm.trans H; with_reducible exact H2_) | with_reducible exact H | (rw [hy128]; exact H) | exact H
 have Ny128 := Aside0.mk hy128
 clear hy128
 obtain ⟨y131, hy131⟩ : ∃ y_ : List (List Int), y_ = (([y101, y104, y107, y110, y113, y116, y119, y122, y125, y128] : List (List Int))) := ⟨_, rfl⟩
 replace H : (some y131) = some r := by first | (rw [hy131]; with_reducible exact H) | (have H2_ := (Option.bind_some _ _).symm.trans H; rw [hy131]; with_reducible exact H2_) | (have H2_ := (Option.bind_some _ _).symm.trans H; with_reducible exact H2_) | with_reducible exact H | (rw [hy131]; exact H) | exact H
 have Ny131 := Aside0.mk hy131
 clear hy131
 obtain rfl := Option.some.inj H
 go_enter Tryd.func68, Tryd.ntmps68
 go_wp2_with (first | ((with_reducible refine aL_ (N := 1) rfl ?_); refine Kd.R_lit (Kd.int .i64) _ 2 ?hg (N := 1) ?hd (xs := ([20, 40, 310] : List Int)) (inner := [.int .i64 20, .int .i64 40, .int .i64 310]) (ok := fun _ => True) (okp := fun _ => True) ?hr ?hp (fun _ hk => hk) trivial (Below.refl _ _) (Nat.le_refl _) (by simp) ?_; (case hd => rfl); (case hg => rfl); (case hr => (go_simp; try rfl)); (case hp => exact (Reps.one (show Kd.M (Kd.int .i64) _ _ _ 20 [.int .i64 20] from rfl) (Reps.one (show Kd.M (Kd.int .i64) _ _ _ 40 [.int .i64 40] from rfl) (Reps.one (show Kd.M (Kd.int .i64) _ _ _ 310 [.int .i64 310] from rfl) (Reps.none _ _))))); intro v102 w1 ho2 hb hg_ hnew_; clear hg_ hnew_; (first | rw [← Ny101.out] at ho2 | (simp only [Int.reduceToNat] at ho2; rw [← Ny101.out] at ho2)); have HO103 := Aside0.mk (Kd.bi_ (Kd.R_newM (M := fun k_ => (w.heap.size ≤ k_)) ho2 (ag_ (bz HB.out)) (fun k_ h_ => h_)) (ag_ (bz HB.out))); replace HB := Aside0.mk (ab_ (bz HB.out) hb); clear hb ho2) | ((with_reducible refine aL_ (N := 2) rfl ?_); refine Kd.R_lit (Kd.int .i64) _ 2 ?hg (N := 2) ?hd (xs := ([35, 45, 410] : List Int)) (inner := [.int .i64 35, .int .i64 45, .int .i64 410]) (ok := fun _ => True) (okp := fun _ => True) ?hr ?hp (fun _ hk => hk) trivial (Below.refl _ _) (Nat.le_refl _) (by simp) ?_; (case hd => rfl); (case hg => rfl); (case hr => (go_simp; try rfl)); (case hp => exact (Reps.one (show Kd.M (Kd.int .i64) _ _ _ 35 [.int .i64 35] from rfl) (Reps.one (show Kd.M (Kd.int .i64) _ _ _ 45 [.int .i64 45] from rfl) (Reps.one (show Kd.M (Kd.int .i64) _ _ _ 410 [.int .i64 410] from rfl) (Reps.none _ _))))); intro v105 w3 ho4 hb hg_ hnew_; clear hg_ hnew_; (first | rw [← Ny104.out] at ho4 | (simp only [Int.reduceToNat] at ho4; rw [← Ny104.out] at ho4)); have HO106 := Aside0.mk (Kd.bi_ (Kd.bG_ (Kd.R_newM (M := fun k_ => (w.heap.size ≤ k_)) ho4 (ag_ (bz HB.out)) (fun k_ h_ => h_)) (Kd.R_lt (rz HO103.out))) (ag_ (bz HB.out))); replace HO103 := Aside0.mk (Kd.aY_ (rz HO103.out) (Kd.bh_ ho4) hb); replace HB := Aside0.mk (ab_ (bz HB.out) hb); clear hb ho4) | ((with_reducible refine aL_ (N := 3) rfl ?_); refine Kd.R_lit (Kd.int .i64) _ 2 ?hg (N := 3) ?hd (xs := ([15, 33, 280] : List Int)) (inner := [.int .i64 15, .int .i64 33, .int .i64 280]) (ok := fun _ => True) (okp := fun _ => True) ?hr ?hp (fun _ hk => hk) trivial (Below.refl _ _) (Nat.le_refl _) (by simp) ?_; (case hd => rfl); (case hg => rfl); (case hr => (go_simp; try rfl)); (case hp => exact (Reps.one (show Kd.M (Kd.int .i64) _ _ _ 15 [.int .i64 15] from rfl) (Reps.one (show Kd.M (Kd.int .i64) _ _ _ 33 [.int .i64 33] from rfl) (Reps.one (show Kd.M (Kd.int .i64) _ _ _ 280 [.int .i64 280] from rfl) (Reps.none _ _))))); intro v108 w5 ho6 hb hg_ hnew_; clear hg_ hnew_; (first | rw [← Ny107.out] at ho6 | (simp only [Int.reduceToNat] at ho6; rw [← Ny107.out] at ho6)); have HO109 := Aside0.mk (Kd.bi_ (Kd.bG_ (Kd.bG_ (Kd.R_newM (M := fun k_ => (w.heap.size ≤ k_)) ho6 (ag_ (bz HB.out)) (fun k_ h_ => h_)) (Kd.R_lt (rz HO103.out))) (Kd.R_lt (rz HO106.out))) (ag_ (bz HB.out))); replace HO103 := Aside0.mk (Kd.aY_ (rz HO103.out) (Kd.bh_ ho6) hb); replace HO106 := Aside0.mk (Kd.aY_ (rz HO106.out) (Kd.bh_ ho6) hb); replace HB := Aside0.mk (ab_ (bz HB.out) hb); clear hb ho6) | ((with_reducible refine aL_ (N := 4) rfl ?_); refine Kd.R_lit (Kd.int .i64) _ 2 ?hg (N := 4) ?hd (xs := ([50, 36, 240] : List Int)) (inner := [.int .i64 50, .int .i64 36, .int .i64 240]) (ok := fun _ => True) (okp := fun _ => True) ?hr ?hp (fun _ hk => hk) trivial (Below.refl _ _) (Nat.le_refl _) (by simp) ?_; (case hd => rfl); (case hg => rfl); (case hr => (go_simp; try rfl)); (case hp => exact (Reps.one (show Kd.M (Kd.int .i64) _ _ _ 50 [.int .i64 50] from rfl) (Reps.one (show Kd.M (Kd.int .i64) _ _ _ 36 [.int .i64 36] from rfl) (Reps.one (show Kd.M (Kd.int .i64) _ _ _ 240 [.int .i64 240] from rfl) (Reps.none _ _))))); intro v111 w7 ho8 hb hg_ hnew_; clear hg_ hnew_; (first | rw [← Ny110.out] at ho8 | (simp only [Int.reduceToNat] at ho8; rw [← Ny110.out] at ho8)); have HO112 := Aside0.mk (Kd.bi_ (Kd.bG_ (Kd.bG_ (Kd.bG_ (Kd.R_newM (M := fun k_ => (w.heap.size ≤ k_)) ho8 (ag_ (bz HB.out)) (fun k_ h_ => h_)) (Kd.R_lt (rz HO103.out))) (Kd.R_lt (rz HO106.out))) (Kd.R_lt (rz HO109.out))) (ag_ (bz HB.out))); replace HO103 := Aside0.mk (Kd.aY_ (rz HO103.out) (Kd.bh_ ho8) hb); replace HO106 := Aside0.mk (Kd.aY_ (rz HO106.out) (Kd.bh_ ho8) hb); replace HO109 := Aside0.mk (Kd.aY_ (rz HO109.out) (Kd.bh_ ho8) hb); replace HB := Aside0.mk (ab_ (bz HB.out) hb); clear hb ho8) | ((with_reducible refine aL_ (N := 5) rfl ?_); refine Kd.R_lit (Kd.int .i64) _ 2 ?hg (N := 5) ?hd (xs := ([95, 85, 270] : List Int)) (inner := [.int .i64 95, .int .i64 85, .int .i64 270]) (ok := fun _ => True) (okp := fun _ => True) ?hr ?hp (fun _ hk => hk) trivial (Below.refl _ _) (Nat.le_refl _) (by simp) ?_; (case hd => rfl); (case hg => rfl); (case hr => (go_simp; try rfl)); (case hp => exact (Reps.one (show Kd.M (Kd.int .i64) _ _ _ 95 [.int .i64 95] from rfl) (Reps.one (show Kd.M (Kd.int .i64) _ _ _ 85 [.int .i64 85] from rfl) (Reps.one (show Kd.M (Kd.int .i64) _ _ _ 270 [.int .i64 270] from rfl) (Reps.none _ _))))); intro v114 w9 ho10 hb hg_ hnew_; clear hg_ hnew_; (first | rw [← Ny113.out] at ho10 | (simp only [Int.reduceToNat] at ho10; rw [← Ny113.out] at ho10)); have HO115 := Aside0.mk (Kd.bi_ (Kd.bG_ (Kd.bG_ (Kd.bG_ (Kd.bG_ (Kd.R_newM (M := fun k_ => (w.heap.size ≤ k_)) ho10 (ag_ (bz HB.out)) (fun k_ h_ => h_)) (Kd.R_lt (rz HO103.out))) (Kd.R_lt (rz HO106.out))) (Kd.R_lt (rz HO109.out))) (Kd.R_lt (rz HO112.out))) (ag_ (bz HB.out))); replace HO103 := Aside0.mk (Kd.aY_ (rz HO103.out) (Kd.bh_ ho10) hb); replace HO106 := Aside0.mk (Kd.aY_ (rz HO106.out) (Kd.bh_ ho10) hb); replace HO109 := Aside0.mk (Kd.aY_ (rz HO109.out) (Kd.bh_ ho10) hb); replace HO112 := Aside0.mk (Kd.aY_ (rz HO112.out) (Kd.bh_ ho10) hb); replace HB := Aside0.mk (ab_ (bz HB.out) hb); clear hb ho10) | ((with_reducible refine aL_ (N := 6) rfl ?_); refine Kd.R_lit (Kd.int .i64) _ 2 ?hg (N := 6) ?hd (xs := ([5, 35, 370] : List Int)) (inner := [.int .i64 5, .int .i64 35, .int .i64 370]) (ok := fun _ => True) (okp := fun _ => True) ?hr ?hp (fun _ hk => hk) trivial (Below.refl _ _) (Nat.le_refl _) (by simp) ?_; (case hd => rfl); (case hg => rfl); (case hr => (go_simp; try rfl)); (case hp => exact (Reps.one (show Kd.M (Kd.int .i64) _ _ _ 5 [.int .i64 5] from rfl) (Reps.one (show Kd.M (Kd.int .i64) _ _ _ 35 [.int .i64 35] from rfl) (Reps.one (show Kd.M (Kd.int .i64) _ _ _ 370 [.int .i64 370] from rfl) (Reps.none _ _))))); intro v117 w11 ho12 hb hg_ hnew_; clear hg_ hnew_; (first | rw [← Ny116.out] at ho12 | (simp only [Int.reduceToNat] at ho12; rw [← Ny116.out] at ho12)); have HO118 := Aside0.mk (Kd.bi_ (Kd.bG_ (Kd.bG_ (Kd.bG_ (Kd.bG_ (Kd.bG_ (Kd.R_newM (M := fun k_ => (w.heap.size ≤ k_)) ho12 (ag_ (bz HB.out)) (fun k_ h_ => h_)) (Kd.R_lt (rz HO103.out))) (Kd.R_lt (rz HO106.out))) (Kd.R_lt (rz HO109.out))) (Kd.R_lt (rz HO112.out))) (Kd.R_lt (rz HO115.out))) (ag_ (bz HB.out))); replace HO103 := Aside0.mk (Kd.aY_ (rz HO103.out) (Kd.bh_ ho12) hb); replace HO106 := Aside0.mk (Kd.aY_ (rz HO106.out) (Kd.bh_ ho12) hb); replace HO109 := Aside0.mk (Kd.aY_ (rz HO109.out) (Kd.bh_ ho12) hb); replace HO112 := Aside0.mk (Kd.aY_ (rz HO112.out) (Kd.bh_ ho12) hb); replace HO115 := Aside0.mk (Kd.aY_ (rz HO115.out) (Kd.bh_ ho12) hb); replace HB := Aside0.mk (ab_ (bz HB.out) hb); clear hb ho12) | ((with_reducible refine aL_ (N := 7) rfl ?_); refine Kd.R_lit (Kd.int .i64) _ 2 ?hg (N := 7) ?hd (xs := ([10, 42, 290] : List Int)) (inner := [.int .i64 10, .int .i64 42, .int .i64 290]) (ok := fun _ => True) (okp := fun _ => True) ?hr ?hp (fun _ hk => hk) trivial (Below.refl _ _) (Nat.le_refl _) (by simp) ?_; (case hd => rfl); (case hg => rfl); (case hr => (go_simp; try rfl)); (case hp => exact (Reps.one (show Kd.M (Kd.int .i64) _ _ _ 10 [.int .i64 10] from rfl) (Reps.one (show Kd.M (Kd.int .i64) _ _ _ 42 [.int .i64 42] from rfl) (Reps.one (show Kd.M (Kd.int .i64) _ _ _ 290 [.int .i64 290] from rfl) (Reps.none _ _))))); intro v120 w13 ho14 hb hg_ hnew_; clear hg_ hnew_; (first | rw [← Ny119.out] at ho14 | (simp only [Int.reduceToNat] at ho14; rw [← Ny119.out] at ho14)); have HO121 := Aside0.mk (Kd.bi_ (Kd.bG_ (Kd.bG_ (Kd.bG_ (Kd.bG_ (Kd.bG_ (Kd.bG_ (Kd.R_newM (M := fun k_ => (w.heap.size ≤ k_)) ho14 (ag_ (bz HB.out)) (fun k_ h_ => h_)) (Kd.R_lt (rz HO103.out))) (Kd.R_lt (rz HO106.out))) (Kd.R_lt (rz HO109.out))) (Kd.R_lt (rz HO112.out))) (Kd.R_lt (rz HO115.out))) (Kd.R_lt (rz HO118.out))) (ag_ (bz HB.out))); replace HO103 := Aside0.mk (Kd.aY_ (rz HO103.out) (Kd.bh_ ho14) hb); replace HO106 := Aside0.mk (Kd.aY_ (rz HO106.out) (Kd.bh_ ho14) hb); replace HO109 := Aside0.mk (Kd.aY_ (rz HO109.out) (Kd.bh_ ho14) hb); replace HO112 := Aside0.mk (Kd.aY_ (rz HO112.out) (Kd.bh_ ho14) hb); replace HO115 := Aside0.mk (Kd.aY_ (rz HO115.out) (Kd.bh_ ho14) hb); replace HO118 := Aside0.mk (Kd.aY_ (rz HO118.out) (Kd.bh_ ho14) hb); replace HB := Aside0.mk (ab_ (bz HB.out) hb); clear hb ho14) | ((with_reducible refine aL_ (N := 8) rfl ?_); refine Kd.R_lit (Kd.int .i64) _ 2 ?hg (N := 8) ?hd (xs := ([40, 40, 330] : List Int)) (inner := [.int .i64 40, .int .i64 40, .int .i64 330]) (ok := fun _ => True) (okp := fun _ => True) ?hr ?hp (fun _ hk => hk) trivial (Below.refl _ _) (Nat.le_refl _) (by simp) ?_; (case hd => rfl); (case hg => rfl); (case hr => (go_simp; try rfl)); (case hp => exact (Reps.one (show Kd.M (Kd.int .i64) _ _ _ 40 [.int .i64 40] from rfl) (Reps.one (show Kd.M (Kd.int .i64) _ _ _ 40 [.int .i64 40] from rfl) (Reps.one (show Kd.M (Kd.int .i64) _ _ _ 330 [.int .i64 330] from rfl) (Reps.none _ _))))); intro v123 w15 ho16 hb hg_ hnew_; clear hg_ hnew_; (first | rw [← Ny122.out] at ho16 | (simp only [Int.reduceToNat] at ho16; rw [← Ny122.out] at ho16)); have HO124 := Aside0.mk (Kd.bi_ (Kd.bG_ (Kd.bG_ (Kd.bG_ (Kd.bG_ (Kd.bG_ (Kd.bG_ (Kd.bG_ (Kd.R_newM (M := fun k_ => (w.heap.size ≤ k_)) ho16 (ag_ (bz HB.out)) (fun k_ h_ => h_)) (Kd.R_lt (rz HO103.out))) (Kd.R_lt (rz HO106.out))) (Kd.R_lt (rz HO109.out))) (Kd.R_lt (rz HO112.out))) (Kd.R_lt (rz HO115.out))) (Kd.R_lt (rz HO118.out))) (Kd.R_lt (rz HO121.out))) (ag_ (bz HB.out))); replace HO103 := Aside0.mk (Kd.aY_ (rz HO103.out) (Kd.bh_ ho16) hb); replace HO106 := Aside0.mk (Kd.aY_ (rz HO106.out) (Kd.bh_ ho16) hb); replace HO109 := Aside0.mk (Kd.aY_ (rz HO109.out) (Kd.bh_ ho16) hb); replace HO112 := Aside0.mk (Kd.aY_ (rz HO112.out) (Kd.bh_ ho16) hb); replace HO115 := Aside0.mk (Kd.aY_ (rz HO115.out) (Kd.bh_ ho16) hb); replace HO118 := Aside0.mk (Kd.aY_ (rz HO118.out) (Kd.bh_ ho16) hb); replace HO121 := Aside0.mk (Kd.aY_ (rz HO121.out) (Kd.bh_ ho16) hb); replace HB := Aside0.mk (ab_ (bz HB.out) hb); clear hb ho16) | ((with_reducible refine aL_ (N := 9) rfl ?_); refine Kd.R_lit (Kd.int .i64) _ 2 ?hg (N := 9) ?hd (xs := ([80, 60, 220] : List Int)) (inner := [.int .i64 80, .int .i64 60, .int .i64 220]) (ok := fun _ => True) (okp := fun _ => True) ?hr ?hp (fun _ hk => hk) trivial (Below.refl _ _) (Nat.le_refl _) (by simp) ?_; (case hd => rfl); (case hg => rfl); (case hr => (go_simp; try rfl)); (case hp => exact (Reps.one (show Kd.M (Kd.int .i64) _ _ _ 80 [.int .i64 80] from rfl) (Reps.one (show Kd.M (Kd.int .i64) _ _ _ 60 [.int .i64 60] from rfl) (Reps.one (show Kd.M (Kd.int .i64) _ _ _ 220 [.int .i64 220] from rfl) (Reps.none _ _))))); intro v126 w17 ho18 hb hg_ hnew_; clear hg_ hnew_; (first | rw [← Ny125.out] at ho18 | (simp only [Int.reduceToNat] at ho18; rw [← Ny125.out] at ho18)); have HO127 := Aside0.mk (Kd.bi_ (Kd.bG_ (Kd.bG_ (Kd.bG_ (Kd.bG_ (Kd.bG_ (Kd.bG_ (Kd.bG_ (Kd.bG_ (Kd.R_newM (M := fun k_ => (w.heap.size ≤ k_)) ho18 (ag_ (bz HB.out)) (fun k_ h_ => h_)) (Kd.R_lt (rz HO103.out))) (Kd.R_lt (rz HO106.out))) (Kd.R_lt (rz HO109.out))) (Kd.R_lt (rz HO112.out))) (Kd.R_lt (rz HO115.out))) (Kd.R_lt (rz HO118.out))) (Kd.R_lt (rz HO121.out))) (Kd.R_lt (rz HO124.out))) (ag_ (bz HB.out))); replace HO103 := Aside0.mk (Kd.aY_ (rz HO103.out) (Kd.bh_ ho18) hb); replace HO106 := Aside0.mk (Kd.aY_ (rz HO106.out) (Kd.bh_ ho18) hb); replace HO109 := Aside0.mk (Kd.aY_ (rz HO109.out) (Kd.bh_ ho18) hb); replace HO112 := Aside0.mk (Kd.aY_ (rz HO112.out) (Kd.bh_ ho18) hb); replace HO115 := Aside0.mk (Kd.aY_ (rz HO115.out) (Kd.bh_ ho18) hb); replace HO118 := Aside0.mk (Kd.aY_ (rz HO118.out) (Kd.bh_ ho18) hb); replace HO121 := Aside0.mk (Kd.aY_ (rz HO121.out) (Kd.bh_ ho18) hb); replace HO124 := Aside0.mk (Kd.aY_ (rz HO124.out) (Kd.bh_ ho18) hb); replace HB := Aside0.mk (ab_ (bz HB.out) hb); clear hb ho18) | ((with_reducible refine aL_ (N := 10) rfl ?_); refine Kd.R_lit (Kd.int .i64) _ 2 ?hg (N := 10) ?hd (xs := ([70, 38, 260] : List Int)) (inner := [.int .i64 70, .int .i64 38, .int .i64 260]) (ok := fun _ => True) (okp := fun _ => True) ?hr ?hp (fun _ hk => hk) trivial (Below.refl _ _) (Nat.le_refl _) (by simp) ?_; (case hd => rfl); (case hg => rfl); (case hr => (go_simp; try rfl)); (case hp => exact (Reps.one (show Kd.M (Kd.int .i64) _ _ _ 70 [.int .i64 70] from rfl) (Reps.one (show Kd.M (Kd.int .i64) _ _ _ 38 [.int .i64 38] from rfl) (Reps.one (show Kd.M (Kd.int .i64) _ _ _ 260 [.int .i64 260] from rfl) (Reps.none _ _))))); intro v129 w19 ho20 hb hg_ hnew_; clear hg_ hnew_; (first | rw [← Ny128.out] at ho20 | (simp only [Int.reduceToNat] at ho20; rw [← Ny128.out] at ho20)); have HO130 := Aside0.mk (Kd.bi_ (Kd.bG_ (Kd.bG_ (Kd.bG_ (Kd.bG_ (Kd.bG_ (Kd.bG_ (Kd.bG_ (Kd.bG_ (Kd.bG_ (Kd.R_newM (M := fun k_ => (w.heap.size ≤ k_)) ho20 (ag_ (bz HB.out)) (fun k_ h_ => h_)) (Kd.R_lt (rz HO103.out))) (Kd.R_lt (rz HO106.out))) (Kd.R_lt (rz HO109.out))) (Kd.R_lt (rz HO112.out))) (Kd.R_lt (rz HO115.out))) (Kd.R_lt (rz HO118.out))) (Kd.R_lt (rz HO121.out))) (Kd.R_lt (rz HO124.out))) (Kd.R_lt (rz HO127.out))) (ag_ (bz HB.out))); replace HO103 := Aside0.mk (Kd.aY_ (rz HO103.out) (Kd.bh_ ho20) hb); replace HO106 := Aside0.mk (Kd.aY_ (rz HO106.out) (Kd.bh_ ho20) hb); replace HO109 := Aside0.mk (Kd.aY_ (rz HO109.out) (Kd.bh_ ho20) hb); replace HO112 := Aside0.mk (Kd.aY_ (rz HO112.out) (Kd.bh_ ho20) hb); replace HO115 := Aside0.mk (Kd.aY_ (rz HO115.out) (Kd.bh_ ho20) hb); replace HO118 := Aside0.mk (Kd.aY_ (rz HO118.out) (Kd.bh_ ho20) hb); replace HO121 := Aside0.mk (Kd.aY_ (rz HO121.out) (Kd.bh_ ho20) hb); replace HO124 := Aside0.mk (Kd.aY_ (rz HO124.out) (Kd.bh_ ho20) hb); replace HO127 := Aside0.mk (Kd.aY_ (rz HO127.out) (Kd.bh_ ho20) hb); replace HB := Aside0.mk (ab_ (bz HB.out) hb); clear hb ho20; obtain ⟨Ao21, co21, eo21⟩ := Kd.bo_ HO103.out; subst eo21; obtain ⟨Ao22, co22, eo22⟩ := Kd.bo_ HO106.out; subst eo22; obtain ⟨Ao23, co23, eo23⟩ := Kd.bo_ HO109.out; subst eo23; obtain ⟨Ao24, co24, eo24⟩ := Kd.bo_ HO112.out; subst eo24; obtain ⟨Ao25, co25, eo25⟩ := Kd.bo_ HO115.out; subst eo25; obtain ⟨Ao26, co26, eo26⟩ := Kd.bo_ HO118.out; subst eo26; obtain ⟨Ao27, co27, eo27⟩ := Kd.bo_ HO121.out; subst eo27; obtain ⟨Ao28, co28, eo28⟩ := Kd.bo_ HO124.out; subst eo28; obtain ⟨Ao29, co29, eo29⟩ := Kd.bo_ HO127.out; subst eo29; obtain ⟨Ao30, co30, eo30⟩ := Kd.bo_ HO130.out; subst eo30) | ((with_reducible refine aL_ (N := 11) rfl ?_); refine Kd.N_lit (Kd.slice 2 (Kd.int .i64)) _ 39 ?hg (N' := 11) ?hd (xs := ([y101, y104, y107, y110, y113, y116, y119, y122, y125, y128] : List (List Int))) (inner := [.slice Ao21 y101.length co21, .slice Ao22 y104.length co22, .slice Ao23 y107.length co23, .slice Ao24 y110.length co24, .slice Ao25 y113.length co25, .slice Ao26 y116.length co26, .slice Ao27 y119.length co27, .slice Ao28 y122.length co28, .slice Ao29 y125.length co29, .slice Ao30 y128.length co30]) (ok := (fun k_ => (w.heap.size ≤ k_))) (okp := (fun k_ => (w.heap.size ≤ k_))) ?hr ?hp (fun _ hk => hk) ((show ∀ k_, w19.heap.size ≤ k_ → (fun k_ => (w.heap.size ≤ k_)) k_ from fun k_ hk => (Nat.le_trans (ag_ (bz HB.out)) hk)) _ (Nat.le_refl _)) (Below.refl _ _) (Nat.le_refl _) (by simp) ?_; (case hd => rfl); (case hg => rfl); (case hr => (go_simp; try rfl)); (case hp => exact (Reps.one (show Kd.FK (Kd.slice 2 (Kd.int .i64)) _ _ y101 [.slice Ao21 y101.length co21] from (Kd.cQ_ (Kd.aj_ (Kd.aT_ (ok' := (fun k_ => (w.heap.size ≤ k_))) (HO103.out) (fun k_ hk => hk.1.1.1.1.1.1.1.1.1.1))).2.1 (Kd.R_F (Kd.aT_ (ok' := (fun k_ => (w.heap.size ≤ k_))) (HO103.out) (fun k_ hk => hk.1.1.1.1.1.1.1.1.1.1))))) (Reps.one (show Kd.FK (Kd.slice 2 (Kd.int .i64)) _ _ y104 [.slice Ao22 y104.length co22] from (Kd.cQ_ (Kd.aj_ (Kd.aT_ (ok' := (fun k_ => (w.heap.size ≤ k_))) (HO106.out) (fun k_ hk => hk.1.1.1.1.1.1.1.1.1.1))).2.1 (Kd.R_F (Kd.aT_ (ok' := (fun k_ => (w.heap.size ≤ k_))) (HO106.out) (fun k_ hk => hk.1.1.1.1.1.1.1.1.1.1))))) (Reps.one (show Kd.FK (Kd.slice 2 (Kd.int .i64)) _ _ y107 [.slice Ao23 y107.length co23] from (Kd.cQ_ (Kd.aj_ (Kd.aT_ (ok' := (fun k_ => (w.heap.size ≤ k_))) (HO109.out) (fun k_ hk => hk.1.1.1.1.1.1.1.1.1.1))).2.1 (Kd.R_F (Kd.aT_ (ok' := (fun k_ => (w.heap.size ≤ k_))) (HO109.out) (fun k_ hk => hk.1.1.1.1.1.1.1.1.1.1))))) (Reps.one (show Kd.FK (Kd.slice 2 (Kd.int .i64)) _ _ y110 [.slice Ao24 y110.length co24] from (Kd.cQ_ (Kd.aj_ (Kd.aT_ (ok' := (fun k_ => (w.heap.size ≤ k_))) (HO112.out) (fun k_ hk => hk.1.1.1.1.1.1.1.1.1.1))).2.1 (Kd.R_F (Kd.aT_ (ok' := (fun k_ => (w.heap.size ≤ k_))) (HO112.out) (fun k_ hk => hk.1.1.1.1.1.1.1.1.1.1))))) (Reps.one (show Kd.FK (Kd.slice 2 (Kd.int .i64)) _ _ y113 [.slice Ao25 y113.length co25] from (Kd.cQ_ (Kd.aj_ (Kd.aT_ (ok' := (fun k_ => (w.heap.size ≤ k_))) (HO115.out) (fun k_ hk => hk.1.1.1.1.1.1.1.1.1.1))).2.1 (Kd.R_F (Kd.aT_ (ok' := (fun k_ => (w.heap.size ≤ k_))) (HO115.out) (fun k_ hk => hk.1.1.1.1.1.1.1.1.1.1))))) (Reps.one (show Kd.FK (Kd.slice 2 (Kd.int .i64)) _ _ y116 [.slice Ao26 y116.length co26] from (Kd.cQ_ (Kd.aj_ (Kd.aT_ (ok' := (fun k_ => (w.heap.size ≤ k_))) (HO118.out) (fun k_ hk => hk.1.1.1.1.1.1.1.1.1.1))).2.1 (Kd.R_F (Kd.aT_ (ok' := (fun k_ => (w.heap.size ≤ k_))) (HO118.out) (fun k_ hk => hk.1.1.1.1.1.1.1.1.1.1))))) (Reps.one (show Kd.FK (Kd.slice 2 (Kd.int .i64)) _ _ y119 [.slice Ao27 y119.length co27] from (Kd.cQ_ (Kd.aj_ (Kd.aT_ (ok' := (fun k_ => (w.heap.size ≤ k_))) (HO121.out) (fun k_ hk => hk.1.1.1.1.1.1.1.1.1.1))).2.1 (Kd.R_F (Kd.aT_ (ok' := (fun k_ => (w.heap.size ≤ k_))) (HO121.out) (fun k_ hk => hk.1.1.1.1.1.1.1.1.1.1))))) (Reps.one (show Kd.FK (Kd.slice 2 (Kd.int .i64)) _ _ y122 [.slice Ao28 y122.length co28] from (Kd.cQ_ (Kd.aj_ (Kd.aT_ (ok' := (fun k_ => (w.heap.size ≤ k_))) (HO124.out) (fun k_ hk => hk.1.1.1.1.1.1.1.1.1.1))).2.1 (Kd.R_F (Kd.aT_ (ok' := (fun k_ => (w.heap.size ≤ k_))) (HO124.out) (fun k_ hk => hk.1.1.1.1.1.1.1.1.1.1))))) (Reps.one (show Kd.FK (Kd.slice 2 (Kd.int .i64)) _ _ y125 [.slice Ao29 y125.length co29] from (Kd.cQ_ (Kd.aj_ (Kd.aT_ (ok' := (fun k_ => (w.heap.size ≤ k_))) (HO127.out) (fun k_ hk => hk.1.1.1.1.1.1.1.1.1.1))).2.1 (Kd.R_F (Kd.aT_ (ok' := (fun k_ => (w.heap.size ≤ k_))) (HO127.out) (fun k_ hk => hk.1.1.1.1.1.1.1.1.1.1))))) (Reps.one (show Kd.FK (Kd.slice 2 (Kd.int .i64)) _ _ y128 [.slice Ao30 y128.length co30] from (Kd.cQ_ (Kd.aj_ (Kd.aT_ (ok' := (fun k_ => (w.heap.size ≤ k_))) (HO130.out) (fun k_ hk => hk.1.1.1.1.1.1.1.1.1.1))).2.1 (Kd.R_F (Kd.aT_ (ok' := (fun k_ => (w.heap.size ≤ k_))) (HO130.out) (fun k_ hk => hk.1.1.1.1.1.1.1.1.1.1))))) (Reps.none _ _)))))))))))); intro v132 w31 ho32 hb hg_ hnew_; clear hg_ hnew_; (first | rw [← Ny131.out] at ho32 | (simp only [Int.reduceToNat] at ho32; rw [← Ny131.out] at ho32)); have HO133 := Aside0.mk (Kd.N_lower ho32 (ag_ (bz HB.out))); replace HB := Aside0.mk (ab_ (bz HB.out) hb); clear HO103; clear HO106; clear HO109; clear HO112; clear HO115; clear HO118; clear HO121; clear HO124; clear HO127; clear HO130; clear hb ho32))
 go_ret
 exact ⟨_, by first | rfl | (simp [*, ap_, ao_] <;> rfl), nz HO133.out, bz HB.out⟩
def ck_.f  : Option (List ByteArray) := some (([(⟨#[97, 115, 104]⟩ : ByteArray), (⟨#[98, 101, 101, 99, 104]⟩ : ByteArray), (⟨#[98, 105, 114, 99, 104]⟩ : ByteArray), (⟨#[99, 104, 101, 114, 114, 121]⟩ : ByteArray), (⟨#[101, 98, 111, 110, 121]⟩ : ByteArray), (⟨#[104, 111, 108, 108, 121]⟩ : ByteArray), (⟨#[109, 97, 112, 108, 101]⟩ : ByteArray), (⟨#[111, 97, 107]⟩ : ByteArray), (⟨#[114, 111, 115, 101, 119, 111, 111, 100]⟩ : ByteArray), (⟨#[119, 97, 108, 110, 117, 116]⟩ : ByteArray)] : List ByteArray))
set_option maxHeartbeats 8000000 in
set_option maxRecDepth 100000 in
theorem ck_.calls  (r : List ByteArray) (w : World) (h : ck_.f  = some r) :
  Calls Tryd.prog 69 #[] w fun e w' => ∃ v0_ : Value, e = .returned (v0_) ∧ Kd.R Kd.string 9 w' w.heap.size (fun _ => True) v0_ r ∧ Below w.heap.size w w' := by
 have HB := Aside0.mk (Below.refl w.heap.size w)
 have H : (some (([(⟨#[97, 115, 104]⟩ : ByteArray), (⟨#[98, 101, 101, 99, 104]⟩ : ByteArray), (⟨#[98, 105, 114, 99, 104]⟩ : ByteArray), (⟨#[99, 104, 101, 114, 114, 121]⟩ : ByteArray), (⟨#[101, 98, 111, 110, 121]⟩ : ByteArray), (⟨#[104, 111, 108, 108, 121]⟩ : ByteArray), (⟨#[109, 97, 112, 108, 101]⟩ : ByteArray), (⟨#[111, 97, 107]⟩ : ByteArray), (⟨#[114, 111, 115, 101, 119, 111, 111, 100]⟩ : ByteArray), (⟨#[119, 97, 108, 110, 117, 116]⟩ : ByteArray)] : List ByteArray))) = some r := h
 clear h
 obtain ⟨y101, hy101⟩ : ∃ y_ : List ByteArray, y_ = (([(⟨#[97, 115, 104]⟩ : ByteArray), (⟨#[98, 101, 101, 99, 104]⟩ : ByteArray), (⟨#[98, 105, 114, 99, 104]⟩ : ByteArray), (⟨#[99, 104, 101, 114, 114, 121]⟩ : ByteArray), (⟨#[101, 98, 111, 110, 121]⟩ : ByteArray), (⟨#[104, 111, 108, 108, 121]⟩ : ByteArray), (⟨#[109, 97, 112, 108, 101]⟩ : ByteArray), (⟨#[111, 97, 107]⟩ : ByteArray), (⟨#[114, 111, 115, 101, 119, 111, 111, 100]⟩ : ByteArray), (⟨#[119, 97, 108, 110, 117, 116]⟩ : ByteArray)] : List ByteArray)) := ⟨_, rfl⟩
 replace H : (some y101) = some r := by first | (rw [hy101]; with_reducible exact H) | (have H2_ := (Option.bind_some _ _).symm.trans H; rw [hy101]; with_reducible exact H2_) | (have H2_ := (Option.bind_some _ _).symm.trans H; with_reducible exact H2_) | with_reducible exact H | (rw [hy101]; exact H) | exact H
 have Ny101 := Aside0.mk hy101
 clear hy101
 obtain rfl := Option.some.inj H
 go_enter Tryd.func69, Tryd.ntmps69
 go_wp2_with (first | ((with_reducible refine aL_ (N := 1) rfl ?_); refine Kd.R_lit Kd.string _ 9 ?hg (N := 1) ?hd (xs := ([(⟨#[97, 115, 104]⟩ : ByteArray), (⟨#[98, 101, 101, 99, 104]⟩ : ByteArray), (⟨#[98, 105, 114, 99, 104]⟩ : ByteArray), (⟨#[99, 104, 101, 114, 114, 121]⟩ : ByteArray), (⟨#[101, 98, 111, 110, 121]⟩ : ByteArray), (⟨#[104, 111, 108, 108, 121]⟩ : ByteArray), (⟨#[109, 97, 112, 108, 101]⟩ : ByteArray), (⟨#[111, 97, 107]⟩ : ByteArray), (⟨#[114, 111, 115, 101, 119, 111, 111, 100]⟩ : ByteArray), (⟨#[119, 97, 108, 110, 117, 116]⟩ : ByteArray)] : List ByteArray)) (inner := [.string (⟨#[97, 115, 104]⟩ : ByteArray), .string (⟨#[98, 101, 101, 99, 104]⟩ : ByteArray), .string (⟨#[98, 105, 114, 99, 104]⟩ : ByteArray), .string (⟨#[99, 104, 101, 114, 114, 121]⟩ : ByteArray), .string (⟨#[101, 98, 111, 110, 121]⟩ : ByteArray), .string (⟨#[104, 111, 108, 108, 121]⟩ : ByteArray), .string (⟨#[109, 97, 112, 108, 101]⟩ : ByteArray), .string (⟨#[111, 97, 107]⟩ : ByteArray), .string (⟨#[114, 111, 115, 101, 119, 111, 111, 100]⟩ : ByteArray), .string (⟨#[119, 97, 108, 110, 117, 116]⟩ : ByteArray)]) (ok := fun _ => True) (okp := fun _ => True) ?hr ?hp (fun _ hk => hk) trivial (Below.refl _ _) (Nat.le_refl _) (by simp) ?_; (case hd => rfl); (case hg => rfl); (case hr => (go_simp; try rfl)); (case hp => exact (Reps.one (show Kd.M Kd.string _ _ _ (⟨#[97, 115, 104]⟩ : ByteArray) [.string (⟨#[97, 115, 104]⟩ : ByteArray)] from rfl) (Reps.one (show Kd.M Kd.string _ _ _ (⟨#[98, 101, 101, 99, 104]⟩ : ByteArray) [.string (⟨#[98, 101, 101, 99, 104]⟩ : ByteArray)] from rfl) (Reps.one (show Kd.M Kd.string _ _ _ (⟨#[98, 105, 114, 99, 104]⟩ : ByteArray) [.string (⟨#[98, 105, 114, 99, 104]⟩ : ByteArray)] from rfl) (Reps.one (show Kd.M Kd.string _ _ _ (⟨#[99, 104, 101, 114, 114, 121]⟩ : ByteArray) [.string (⟨#[99, 104, 101, 114, 114, 121]⟩ : ByteArray)] from rfl) (Reps.one (show Kd.M Kd.string _ _ _ (⟨#[101, 98, 111, 110, 121]⟩ : ByteArray) [.string (⟨#[101, 98, 111, 110, 121]⟩ : ByteArray)] from rfl) (Reps.one (show Kd.M Kd.string _ _ _ (⟨#[104, 111, 108, 108, 121]⟩ : ByteArray) [.string (⟨#[104, 111, 108, 108, 121]⟩ : ByteArray)] from rfl) (Reps.one (show Kd.M Kd.string _ _ _ (⟨#[109, 97, 112, 108, 101]⟩ : ByteArray) [.string (⟨#[109, 97, 112, 108, 101]⟩ : ByteArray)] from rfl) (Reps.one (show Kd.M Kd.string _ _ _ (⟨#[111, 97, 107]⟩ : ByteArray) [.string (⟨#[111, 97, 107]⟩ : ByteArray)] from rfl) (Reps.one (show Kd.M Kd.string _ _ _ (⟨#[114, 111, 115, 101, 119, 111, 111, 100]⟩ : ByteArray) [.string (⟨#[114, 111, 115, 101, 119, 111, 111, 100]⟩ : ByteArray)] from rfl) (Reps.one (show Kd.M Kd.string _ _ _ (⟨#[119, 97, 108, 110, 117, 116]⟩ : ByteArray) [.string (⟨#[119, 97, 108, 110, 117, 116]⟩ : ByteArray)] from rfl) (Reps.none _ _)))))))))))); intro v102 w1 ho2 hb hg_ hnew_; clear hg_ hnew_; (first | rw [← Ny101.out] at ho2 | (simp only [Int.reduceToNat] at ho2; rw [← Ny101.out] at ho2)); have HO103 := Aside0.mk (Kd.bi_ ho2 (ag_ (bz HB.out))); replace HB := Aside0.mk (ab_ (bz HB.out) hb); clear hb ho2))
 go_ret
 exact ⟨_, by first | rfl | (simp [*, ap_, ao_] <;> rfl), rz HO103.out, bz HB.out⟩
def cP_.f (a0 : Int) (a1 : Int) : Option (Int) := if a0 < a1 then (some a0) else (some a1)
set_option maxHeartbeats 8000000 in
set_option maxRecDepth 100000 in
theorem cP_.calls (a0 : Int) (a1 : Int) (r : Int) (w : World) (h : cP_.f a0 a1 = some r) :
  Calls Tryd.prog 70 #[.int .i64 a0, .int .i64 a1] w fun e w' => e = .returned (.int .i64 r) ∧ au_ w w' := by
 have H : (if a0 < a1 then (some a0) else (some a1)) = some r := h
 clear h
 by_cases c3 : a0 < a1
 rotate_left
 ·rw [if_neg c3] at H
  have c3b0 : decide (a0 < a1) = false := decide_eq_false c3
  clear c3
  obtain rfl := Option.some.inj H
  go_enter Tryd.func70, Tryd.ntmps70
  go_wp2
  go_ret
  exact ⟨by first | rfl | (simp; done) | (simp [*]; done), by repeat (first | exact au_.refl _ | apply au_.step)⟩
 rw [if_pos c3] at H
 have c3b0 : decide (a0 < a1) = true := decide_eq_true c3
 clear c3
 obtain rfl := Option.some.inj H
 go_enter Tryd.func70, Tryd.ntmps70
 go_wp2
 go_ret
 exact ⟨by first | rfl | (simp; done) | (simp [*]; done), by repeat (first | exact au_.refl _ | apply au_.step)⟩
def cS_.f (a0 : Int) (a1 : Int) : Option (Int) := if a0 > a1 then (some a0) else (some a1)
set_option maxHeartbeats 8000000 in
set_option maxRecDepth 100000 in
theorem cS_.calls (a0 : Int) (a1 : Int) (r : Int) (w : World) (h : cS_.f a0 a1 = some r) :
  Calls Tryd.prog 71 #[.int .i64 a0, .int .i64 a1] w fun e w' => e = .returned (.int .i64 r) ∧ au_ w w' := by
 have H : (if a0 > a1 then (some a0) else (some a1)) = some r := h
 clear h
 by_cases c3 : a0 > a1
 rotate_left
 ·rw [if_neg c3] at H
  have c3b0 : decide (a1 < a0) = false := decide_eq_false c3
  clear c3
  obtain rfl := Option.some.inj H
  go_enter Tryd.func71, Tryd.ntmps71
  go_wp2
  go_ret
  exact ⟨by first | rfl | (simp; done) | (simp [*]; done), by repeat (first | exact au_.refl _ | apply au_.step)⟩
 rw [if_pos c3] at H
 have c3b0 : decide (a1 < a0) = true := decide_eq_true c3
 clear c3
 obtain rfl := Option.some.inj H
 go_enter Tryd.func71, Tryd.ntmps71
 go_wp2
 go_ret
 exact ⟨by first | rfl | (simp; done) | (simp [*]; done), by repeat (first | exact au_.refl _ | apply au_.step)⟩
def cn_.f (s0_0 : List Int) (s0_1 : Int) (s0_2 : Int) (l1 : List Int) : Option (Int × Int × Int) := (aB_.f s0_0 s0_1 s0_2 (l1.length : Int)).bind fun bt101 => (if 0 ≤ bt101.1 then (if bt101.1 < (l1.length : Int) then (some (rd l1 bt101.1, bt101.2.1, bt101.2.2)) else (none)) else (none))
set_option maxHeartbeats 8000000 in
set_option maxRecDepth 100000 in
theorem cn_.calls (g : Nat) (s0_0 : List Int) (s0_1 : Int) (s0_2 : Int) (A1 : Option Addr) (c1 : Nat) (l1 : List Int) (r1 : Int) (r2 : Int) (r3 : Int) (w0 w : World) (hI : IsS82 w0 w g s0_0 s0_1 s0_2) (hB : Below w0.heap.size w0 w) (hr1 : Kd.C (Kd.int .i64) w A1 l1.length l1) (hc1 : l1.length ≤ c1) (hf1 : ∀ ad, A1 = some ad → 0 < l1.length → ad.block ≠ g) (h : cn_.f s0_0 s0_1 s0_2 l1 = some (r1, r2, r3)) :
  Calls Tryd.prog 72 #[.pointer (some ⟨g, 0, none⟩), .slice A1 l1.length c1] w fun e w' => e = .returned (.int .i64 r1) ∧ IsS82 w0 w' g s0_0 r2 r3 ∧ Below w0.heap.size w0 w' ∧ ac_ w w' g none := by
 have HR1 := Aside0.mk hr1
 have HC1 := Aside0.mk hc1
 clear hr1 hc1
 have HI0 := Aside0.mk hI
 have HK := Aside0.mk (ac_.refl w g none)
 have HL := Aside0.mk hB.size
 clear hI
 have HW0 := Aside0.mk hB.size
 have HB := Aside0.mk hB
 clear hB
 have H : ((aB_.f s0_0 s0_1 s0_2 (l1.length : Int)).bind fun bt101 => (if 0 ≤ bt101.1 then (if bt101.1 < (l1.length : Int) then (some (rd l1 bt101.1, bt101.2.1, bt101.2.2)) else (none)) else (none))) = some (r1, r2, r3) := h
 clear h
 replace H := Option.bind_eq_some_iff.mp H
 obtain ⟨⟨t101, t102, t103⟩, A30, H⟩ := H
 (try dsimp only at H)
 have A3 := Aside0.mk A30
 clear A30
 by_cases c4 : 0 ≤ t101
 rotate_left
 ·rw [if_neg c4] at H
  exact absurd H (by simp)
 rw [if_pos c4] at H
 have c4b0 : decide (0 ≤ t101) = true := decide_eq_true c4
 clear c4
 by_cases c5 : t101 < (l1.length : Int)
 rotate_left
 ·rw [if_neg c5] at H
  exact absurd H (by simp)
 rw [if_pos c5] at H
 have c5b0 : decide (t101 < (l1.length : Int)) = true := decide_eq_true c5
 clear c5
 simp only [Option.some.injEq, Prod.mk.injEq] at H
 obtain ⟨rfl, rfl, rfl⟩ := H
 go_enter Tryd.func72, Tryd.ntmps72
 go_wp2_with (first | ((with_reducible refine as_ (f := 46) rfl ?_); refine bw_ (some 9) rfl rfl Tryd.func46 (by kernel_rfl) rfl #[.pointer (some ⟨g, 0, none⟩), .int .i64 (l1.length : Int)] rfl (by first | rfl | (simp only [lma_, lmc_, lmn_]; first | done | rfl)) ?_; (with_reducible refine (aB_.calls g s0_0 s0_1 s0_2 (l1.length : Int) t101 t102 t103 w0 _ ?side1 ?side2 A3.out).mono ?_); (case side1 => repeat (first | (with_reducible first | exact HI0.out | apply IsS82.alloc | apply IsS82.drewN | apply IsS82.drew | apply IsS82.set_1 | apply IsS82.set_2) | exact HI0.out)); (case side2 => repeat (first | (with_reducible first | exact HB.out | apply bA_ | apply bN_ | apply bD_ | refine af_ ?_ (IsS82.ge HI0.out)) | exact HB.out)); rintro e w6 ⟨rfl, hi, hb, hk⟩; refine ⟨_, rfl, ?_⟩; replace HK := Aside0.mk (ac_.trans (by repeat (first | (with_reducible first | exact HK.out | apply ac_.set_ | apply ah_ | apply al_ | apply ai_) | exact HK.out)) hk (.inl rfl)); replace HB := Aside0.mk (hb); replace HI0 := Aside0.mk (hi); (try clear hb); have p104 : 0 ≤ (t101 : Int) := of_decide_eq_true (by assumption); have q104 : t101 < (l1.length : Int) := of_decide_eq_true (by assumption); obtain ⟨ad104, e104, hx104_0⟩ := Kd.cu_ HR1.out t101 p104 q104; cases e104; replace hx104_0 := keep_cell HK.out hx104_0 (by first | (rw [add_block]; exact hf1 _ rfl (by omega)) | exact hf1 _ rfl (by omega) | exact hf1 ad104 rfl (by omega)); replace p104 := eq_true p104; replace q104 := eq_true q104))
 go_ret
 exact ⟨by first | rfl | (simp [*, ap_, ao_] <;> rfl), by repeat (first | (with_reducible first | exact HI0.out | apply IsS82.alloc | apply IsS82.drewN | apply IsS82.drew | apply IsS82.set_1 | apply IsS82.set_2) | exact HI0.out), by repeat (first | (with_reducible first | exact HB.out | apply bA_ | apply bN_ | apply bD_ | refine af_ ?_ (IsS82.ge HI0.out)) | exact HB.out), by repeat (first | (with_reducible first | exact HK.out | apply ac_.set_ | apply ah_ | apply al_ | apply ai_) | exact HK.out)⟩
def bq_.f (s0_0 : List Int) (s0_1 : Int) (s0_2 : Int) : Option (ByteArray × Int × Int × Int × Int) := (aB_.f s0_0 s0_1 s0_2 10).bind fun bt102 => ((cB_.f).bind fun t105 => (if 0 ≤ bt102.1 then (if bt102.1 < (t105.length : Int) then (if 0 < ((rd_L2 t105 bt102.1).length : Int) then ((aB_.f s0_0 bt102.2.1 bt102.2.2 21).bind fun bt110 => ((ck_.f).bind fun t113 => (if bt102.1 < (t113.length : Int) then ((cS_.f 0 (wrap64 ((wrap64 ((rd (rd_L2 t105 bt102.1) 0) + bt110.1)) - 10))).bind fun t117 => ((cP_.f 100 t117).bind fun t118 => ((aB_.f s0_0 bt110.2.1 bt110.2.2 180).bind fun bt120 => ((cn_.f s0_0 bt120.2.1 bt120.2.2 (([bt120.1, bt120.1, 0, 90, 45] : List Int))).bind fun bt126 => (some (rdOf ByteArray.empty t113 bt102.1, t118, bt126.1, bt126.2.1, bt126.2.2)))))) else (none)))) else (none)) else (none)) else (none)))
def bq_.T2 : Bool × List (List Nat × List Nat) := (true, [([], []), ([], []), ([0, 1], [0, 1]), ([2], [2]), ([3], [3]), ([4], [4]), ([], []), ([6, 0], [6]), ([5, 7], [5, 7]), ([8], [8]), ([9, 7, 0, 1, 2, 3, 4, 5, 6, 7, 8, 9], [9])])
def bq_.B2 : List Nat := [0, 0, 3, 7, 15, 31, 0, 65, 255, 511, 1023]
theorem bq_.tab2 : rtab .any (opsOf Tryd.f49 2) = bq_.T2 := by kernel_rfl
theorem bq_.bits2 : dz_ bq_.T2.2 bq_.B2 = true := by kernel_rfl
def bq_.T3 : Bool × List (List Nat × List Nat) := (true, [([], []), ([], []), ([0, 1], [0, 1]), ([2], [2]), ([], []), ([4, 0], [4]), ([5, 5], [5]), ([3, 6], [3, 6]), ([], []), ([8, 7, 6, 0, 1, 2, 3, 4, 5, 6, 7, 8], [7, 8])])
def bq_.B3 : List Nat := [0, 0, 3, 7, 0, 17, 49, 127, 0, 511]
theorem bq_.tab3 : rtab .any (opsOf Tryd.f49 3) = bq_.T3 := by kernel_rfl
theorem bq_.bits3 : dz_ bq_.T3.2 bq_.B3 = true := by kernel_rfl
set_option maxHeartbeats 8000000 in
set_option maxRecDepth 100000 in
theorem bq_.calls (g : Nat) (s0_0 : List Int) (s0_1 : Int) (s0_2 : Int) (r1 : ByteArray) (r2 : Int) (r3 : Int) (r4 : Int) (r5 : Int) (w0 w : World) (hI : IsS82 w0 w g s0_0 s0_1 s0_2) (hB : Below w0.heap.size w0 w) (h : bq_.f s0_0 s0_1 s0_2 = some (r1, r2, r3, r4, r5)) :
  Calls Tryd.prog 49 #[.pointer (some ⟨g, 0, none⟩)] w fun e w' => e = .returned (.agg #[.string r1, .int .i64 r2, .int .i64 r3]) ∧ IsS82 w0 w' g s0_0 r4 r5 ∧ Below w0.heap.size w0 w' ∧ ac_ w w' g none := by
 have hu57 := Tryd.underlying57
 have HI0 := Aside0.mk hI
 have HK := Aside0.mk (ac_.refl w g none)
 have HL := Aside0.mk hB.size
 clear hI
 have HW0 := Aside0.mk hB.size
 have HB := Aside0.mk hB
 clear hB
 have H : ((aB_.f s0_0 s0_1 s0_2 10).bind fun bt102 => ((cB_.f).bind fun t105 => (if 0 ≤ bt102.1 then (if bt102.1 < (t105.length : Int) then (if 0 < ((rd_L2 t105 bt102.1).length : Int) then ((aB_.f s0_0 bt102.2.1 bt102.2.2 21).bind fun bt110 => ((ck_.f).bind fun t113 => (if bt102.1 < (t113.length : Int) then ((cS_.f 0 (wrap64 ((wrap64 ((rd (rd_L2 t105 bt102.1) 0) + bt110.1)) - 10))).bind fun t117 => ((cP_.f 100 t117).bind fun t118 => ((aB_.f s0_0 bt110.2.1 bt110.2.2 180).bind fun bt120 => ((cn_.f s0_0 bt120.2.1 bt120.2.2 (([bt120.1, bt120.1, 0, 90, 45] : List Int))).bind fun bt126 => (some (rdOf ByteArray.empty t113 bt102.1, t118, bt126.1, bt126.2.1, bt126.2.2)))))) else (none)))) else (none)) else (none)) else (none)))) = some (r1, r2, r3, r4, r5) := h
 clear h
 replace H := Option.bind_eq_some_iff.mp H
 obtain ⟨⟨t102, t103, t104⟩, A20, H⟩ := H
 (try dsimp only at H)
 have A2 := Aside0.mk A20
 clear A20
 replace H := Option.bind_eq_some_iff.mp H
 obtain ⟨t105, A30, H⟩ := H
 (try dsimp only at H)
 have A3 := Aside0.mk A30
 clear A30
 by_cases c4 : 0 ≤ t102
 rotate_left
 ·rw [if_neg c4] at H
  exact absurd H (by simp)
 rw [if_pos c4] at H
 have c4b0 : decide (0 ≤ t102) = true := decide_eq_true c4
 clear c4
 by_cases c5 : t102 < (t105.length : Int)
 rotate_left
 ·rw [if_neg c5] at H
  exact absurd H (by simp)
 rw [if_pos c5] at H
 have c5b0 : decide (t102 < (t105.length : Int)) = true := decide_eq_true c5
 clear c5
 by_cases c6 : 0 < ((rd_L2 t105 t102).length : Int)
 rotate_left
 ·rw [if_neg c6] at H
  exact absurd H (by simp)
 rw [if_pos c6] at H
 have c6b0 : decide (0 < ((rd_L2 t105 t102).length : Int)) = true := decide_eq_true c6
 have c6b1 : decide (0 < (rd_L2 t105 t102).length) = true := decide_eq_true (by omega)
 clear c6
 replace H := Option.bind_eq_some_iff.mp H
 obtain ⟨⟨t110, t111, t112⟩, A70, H⟩ := H
 (try dsimp only at H)
 have A7 := Aside0.mk A70
 clear A70
 replace H := Option.bind_eq_some_iff.mp H
 obtain ⟨t113, A80, H⟩ := H
 (try dsimp only at H)
 have A8 := Aside0.mk A80
 clear A80
 by_cases c9 : t102 < (t113.length : Int)
 rotate_left
 ·rw [if_neg c9] at H
  exact absurd H (by simp)
 rw [if_pos c9] at H
 have c9b0 : decide (t102 < (t113.length : Int)) = true := decide_eq_true c9
 clear c9
 replace H := Option.bind_eq_some_iff.mp H
 obtain ⟨t117, A100, H⟩ := H
 (try dsimp only at H)
 have A10 := Aside0.mk A100
 clear A100
 replace H := Option.bind_eq_some_iff.mp H
 obtain ⟨t118, A110, H⟩ := H
 (try dsimp only at H)
 have A11 := Aside0.mk A110
 clear A110
 replace H := Option.bind_eq_some_iff.mp H
 obtain ⟨⟨t120, t121, t122⟩, A120, H⟩ := H
 (try dsimp only at H)
 have A12 := Aside0.mk A120
 clear A120
 obtain ⟨y123, hy123⟩ : ∃ y_ : List Int, y_ = (([t120, t120, 0, 90, 45] : List Int)) := ⟨_, rfl⟩
 replace H : ((cn_.f s0_0 t121 t122 y123).bind fun bt126 => (some (rdOf ByteArray.empty t113 t102, t118, bt126.1, bt126.2.1, bt126.2.2))) = some (r1, r2, r3, r4, r5) := by first | (rw [hy123]; with_reducible exact H) | (have H2_ := (Option.bind_some _ _).symm.trans H; rw [hy123]; with_reducible exact H2_) | (have H2_ := (Option.bind_some _ _).symm.trans H; with_reducible exact H2_) | with_reducible exact H | (rw [hy123]; exact H) | exact H
 have Ny123 := Aside0.mk hy123
 clear hy123
 replace H := Option.bind_eq_some_iff.mp H
 obtain ⟨⟨t126, t127, t128⟩, A130, H⟩ := H
 (try dsimp only at H)
 have A13 := Aside0.mk A130
 clear A130
 simp only [Option.some.injEq, Prod.mk.injEq] at H
 obtain ⟨rfl, rfl, rfl, rfl, rfl⟩ := H
 go_enter Tryd.func49, Tryd.ntmps49
 try go_wp2_with (first | ((with_reducible refine aL_ (N := 2) rfl ?_); refine bz_ ?hg (N := 2) ?hd (cs := #[.string (⟨#[]⟩ : ByteArray), .int .i64 0, .int .i64 0]) (t := 57) ?hr ?_; (case hd => rfl); (case hg => rfl); (case hr => (go_simp; try rfl)); intro gb101 hg w14 hbox hb; replace HB := Aside0.mk (ab_ (by repeat (first | (with_reducible first | exact HB.out | apply bA_ | apply bN_ | apply bD_ | refine af_ ?_ (IsS82.ge HI0.out)) | exact HB.out)) hb); have BK101 := Aside0.mk (hbox); have GW101 := Aside0.mk ((by rw [hg]; exact (br_ (w := w) (g := g) (row := none) (by repeat (first | (with_reducible first | exact HK.out | apply ac_.set_ | apply ah_ | apply al_ | apply ai_) | exact HK.out))) : w.heap.size ≤ gb101)); have GE101 := Aside0.mk ((Nat.le_trans HW0.out (by rw [hg]; exact (br_ (w := w) (g := g) (row := none) (by repeat (first | (with_reducible first | exact HK.out | apply ac_.set_ | apply ah_ | apply al_ | apply ai_) | exact HK.out))) : w.heap.size ≤ gb101) : w0.heap.size ≤ gb101)); replace HK := Aside0.mk (ac_.trans (by repeat (first | (with_reducible first | exact HK.out | apply ac_.set_ | apply ah_ | apply al_ | apply ai_) | exact HK.out)) (ac_.of_below hb g none) (.inl rfl)); have NB0_101 := Aside0.mk ((by rw [hg]; exact Nat.ne_of_lt (IsS82.lt (show IsS82 w0 _ g s0_0 s0_1 s0_2 from by repeat (first | (with_reducible first | exact HI0.out | apply IsS82.alloc | apply IsS82.drewN | apply IsS82.drew | apply IsS82.set_1 | apply IsS82.set_2) | exact HI0.out))) : g ≠ gb101)); have NB101_0 := Aside0.mk ((by rw [hg]; exact Nat.ne_of_gt (IsS82.lt (show IsS82 w0 _ g s0_0 s0_1 s0_2 from by repeat (first | (with_reducible first | exact HI0.out | apply IsS82.alloc | apply IsS82.drewN | apply IsS82.drew | apply IsS82.set_1 | apply IsS82.set_2) | exact HI0.out))) : gb101 ≠ g)); replace HI0 := Aside0.mk (IsS82.below (by repeat (first | (with_reducible first | exact HI0.out | apply IsS82.alloc | apply IsS82.drewN | apply IsS82.drew | apply IsS82.set_1 | apply IsS82.set_2) | exact HI0.out)) hb); clear hb hbox hg) | ((with_reducible refine as_ (f := 46) rfl ?_); refine bw_ (some 8) rfl rfl Tryd.func46 (by kernel_rfl) rfl #[.pointer (some ⟨g, 0, none⟩), .int .i64 10] rfl (by first | rfl | (simp only [lma_, lmc_, lmn_]; first | done | rfl)) ?_; (with_reducible refine (aB_.calls g s0_0 s0_1 s0_2 10 t102 t103 t104 w0 _ ?side1 ?side2 A2.out).mono ?_); (case side1 => repeat (first | (with_reducible first | exact HI0.out | apply IsS82.alloc | apply IsS82.drewN | apply IsS82.drew | apply IsS82.set_1 | apply IsS82.set_2 | refine IsS82.far ?_ NB0_101.out _) | exact HI0.out)); (case side2 => repeat (first | (with_reducible first | exact HB.out | apply bA_ | apply bN_ | apply bD_ | refine af_ ?_ (IsS82.ge HI0.out) | refine af_ ?_ GE101.out) | exact HB.out)); rintro e w15 ⟨rfl, hi, hb, hk⟩; refine ⟨_, rfl, ?_⟩; replace BK101 := Aside0.mk (ac_.blk hk (g' := gb101) (o := .cells #[.string (⟨#[]⟩ : ByteArray), .int .i64 0, .int .i64 0] 57 (0, 0)) (kz BK101.out) NB101_0.out (by simp)); replace HK := Aside0.mk (ac_.trans (by repeat (first | (with_reducible first | exact HK.out | apply ac_.set_ | apply ah_ | apply al_ | apply ai_ | refine aC_ ?_ GW101.out _) | exact HK.out)) hk (.inl rfl)); replace HB := Aside0.mk (hb); replace HI0 := Aside0.mk (hi); (try clear hb)))
 have n0_ := Aside0.mk (cc_ BK101.out)
 have n1_ := Aside0.mk (IsS82.drew HI0.out)
 have n2_ := Aside0.mk (al_ HK.out)
 have n3_ := Aside0.mk (bD_ HB.out)
 clear BK101
 clear HI0
 clear HK
 clear HB
 have BK101 := n0_
 have HI0 := n1_
 have HK := n2_
 have HB := n3_
 clear n0_ n1_ n2_ n3_
 refine start_ (n := 11) (S := fun w' => True) (ds := []) #[f_,f_,f_,f_,f_,f_,f_,f_,f_,f_,f_] (by kernel_rfl) rfl rfl trivial (fun hHeld => ?_); refine db_ bq_.tab2 bq_.bits2 (fun HT_ HW_ => ?_)
 generalize w15.drew = w16 at BK101 HI0 HK HB hHeld ⊢
 refine pu 1 10 #[f_,t_,f_,f_,f_,f_,f_,f_,f_,f_,f_] HT_ ?_
 refine pu 6 15 #[f_,t_,f_,f_,f_,f_,t_,f_,f_,f_,f_] HT_ ?_
 refine one_ (i := 0) (N := some 9) #[t_,t_,f_,f_,f_,f_,t_,f_,f_,f_,f_] rfl rfl (cV_ HT_.out (by kernel_rfl)) (by decide) (fun K hK => ?_)
 (first | refine goes_ Tryd.func68 (by kernel_rfl) rfl #[] (by rfl) rfl rfl (by first | rfl | (simp only [lma_, lmc_, lmn_]; first | done | rfl)) ?_ | refine RPW.cX_ Tryd.func68 (by kernel_rfl) rfl #[] (by rfl) rfl rfl rfl (by first | rfl | (simp only [lma_, lmc_, lmn_]; first | done | rfl)) ?_ | refine RPW.cY_ Tryd.func68 (by kernel_rfl) rfl #[] (by rfl) rfl rfl rfl (by first | rfl | (simp only [lma_, lmc_, lmn_]; first | done | rfl)) ?_)
 with_reducible refine (cB_.calls  t105 _ A3.out).mono ?_
 rintro e w17 ⟨v106, rfl, ho0, hb⟩
 refine ⟨_, rfl, ?_⟩
 have n0_ := Aside0.mk (Kd.N_lower (Kd.cN_ (ok' := fun k_ => k_ ≠ gb101 ∧ k_ ≠ g) ho0 (fun k_ hk_ => ⟨(Kd.dD_ (g := gb101) (o := .cells #[.string (⟨#[]⟩ : ByteArray), .int .i64 0, .int .i64 0] 57 (0, 0)) (kz BK101.out) k_ hk_), (IsS82.fresh (by repeat (first | (with_reducible first | exact HI0.out | apply IsS82.alloc | apply IsS82.drewN | apply IsS82.drew | apply IsS82.set_1 | apply IsS82.set_2 | refine IsS82.far ?_ NB0_101.out _) | exact HI0.out)) k_ hk_)⟩)) (br_ (w := w) (g := g) (row := none) (by repeat (first | (with_reducible first | exact HK.out | apply ac_.set_ | apply ah_ | apply al_ | apply ai_ | refine aC_ ?_ GW101.out _) | exact HK.out))))
 have n1_ := Aside0.mk (IsS82.below (by repeat (first | (with_reducible first | exact HI0.out | apply IsS82.alloc | apply IsS82.drewN | apply IsS82.drew | apply IsS82.set_1 | apply IsS82.set_2 | refine IsS82.far ?_ NB0_101.out _) | exact HI0.out)) hb)
 have n2_ := Aside0.mk (aS_ (kz BK101.out) hb)
 have n3_ := Aside0.mk (ac_.trans (by repeat (first | (with_reducible first | exact HK.out | apply ac_.set_ | apply ah_ | apply al_ | apply ai_ | refine aC_ ?_ GW101.out _) | exact HK.out)) (ac_.of_below hb g none) (.inl rfl))
 have n4_ := Aside0.mk (ab_ (by repeat (first | (with_reducible first | exact HB.out | apply bA_ | apply bN_ | apply bD_ | refine af_ ?_ (IsS82.ge HI0.out) | refine af_ ?_ GE101.out) | exact HB.out)) hb)
 clear HI0
 clear BK101
 clear HK
 clear HB
 have HO107 := n0_
 have HI0 := n1_
 have BK101 := n2_
 have HK := n3_
 have HB := n4_
 clear n0_ n1_ n2_ n3_ n4_
 (try clear hb)
 (try clear ho0)
 obtain ⟨Ao18, co18, eo18⟩ := Kd.N_slice HO107.out
 (first | subst eo18 | (injection eo18 with f1_ f2_ f3_; have f4_ := f1_.symm; have f5_ := f3_.symm; clear f1_ f2_ f3_; subst f4_; subst f5_))
 have p108 : 0 ≤ (t102 : Int) := of_decide_eq_true (by assumption)
 have q108 : t102 < (t105.length : Int) := of_decide_eq_true (by assumption)
 obtain ⟨ad108, A108_0, c108_0, e108, hx108_0, hl108_0, hi108_0⟩ := at_L2 (Kd.N_reads' HO107.out).2.2 t102 p108 q108
 cases e108
 obtain ⟨ce108, hce108, hMe108, hcc108⟩ := Kd.N_get HO107.out [] t102 p108 (by first | exact q108 | exact of_decide_eq_true (by assumption) | (have e_ := (Kd.N_reads' HO107.out).1; omega))
 obtain ⟨ua108_0, uc108_0, rfl, ul108_0, ge108_0⟩ := Kd.FK_slice_open hMe108
 have hv108_0 := hcc108 0 _ rfl
 rw [Nat.add_zero, show ((Kd.slice 2 (Kd.int .i64))).sz = 1 from rfl, Nat.mul_one] at hv108_0
 replace hv108_0 := Option.some.inj (hv108_0.symm.trans hx108_0)
 injection hv108_0 with hva_ hvn_ hvc_
 rw [hva_] at ge108_0
 rw [hvc_] at ul108_0
 have HL108_0 := Aside0.mk (show Kd.V (Kd.int .i64) 2 _ w.heap.size _ _ (rd_L2 t105 t102) from Kd.V_mk ul108_0 ge108_0)
 clear hva_ hvn_ hvc_ ge108_0 ul108_0
 clear hcc108 hce108
 have HR108_0 := Aside0.mk hi108_0
 have HC108_0 := Aside0.mk hl108_0
 clear hi108_0 hl108_0
 replace p108 := eq_true p108
 replace q108 := eq_true q108
 have p109 : 0 ≤ (0 : Int) := (by omega)
 have q109 : 0 < ((rd_L2 t105 t102).length : Int) := of_decide_eq_true (by assumption)
 obtain ⟨ad109, e109, hx109_0⟩ := Kd.cu_ (by repeat (first | (with_reducible exact HR108_0.out) | (with_reducible first | refine Kd.bn_ ?_ _ | refine Kd.bm_ ?_ _ | refine Kd.bH_ ?_) | exact HR108_0.out)) 0 p109 q109
 cases e109
 have qi109 : (0 < (rd_L2 t105 t102).length) = True := eq_true (by omega)
 (try rw [show ((0 : Int)).toNat = 0 from rfl] at hx109_0)
 (try rw [Addr.add_zero'] at hx109_0)
 replace p109 := eq_true p109
 replace q109 := eq_true q109
 refine hK.out _ _ trivial (fun hHeld => ?_)
 clear hK K
 refine norm_ (a' := ?_) ?_ ?_
 rotate_left
 ·show Act.put _ (some 9) _ = _
  simp only [Act.put, lsa_, ls0_, ls1_, i64_w, i32_w]
  rfl
 refine RPW.grow_ (S' := fun w' => w'.cell? (ad108.add (t102).toNat) = some (.slice (some ad109) (rd_L2 t105 t102).length c108_0) ∧ w'.cell? ad109 = some (.int .i64 (rd (rd_L2 t105 t102) 0))) (fun _ h_ => trivial) ⟨hx108_0, hx109_0⟩ (fun hHeld => ?_)
 refine pu 2 11 #[t_,t_,t_,f_,f_,f_,t_,f_,f_,f_,f_] HT_ ?_
 refine tk 3 12 #[t_,t_,t_,t_,f_,f_,t_,f_,f_,f_,f_] HT_ HW_ hHeld ?_ (hv := by rintro w' ⟨s0, s1⟩; go_simp; with_reducible rfl)
 refine pu 4 13 #[t_,t_,t_,t_,t_,f_,t_,f_,f_,f_,f_] HT_ ?_
 refine tk 5 14 #[t_,t_,t_,t_,t_,t_,t_,f_,f_,f_,f_] HT_ HW_ hHeld ?_ (hv := by rintro w' ⟨s0, s1⟩; go_simp; with_reducible rfl)
 refine one_ (i := 7) (N := some 16) #[t_,t_,t_,t_,t_,t_,t_,t_,f_,f_,f_] rfl rfl (cV_ HT_.out (by kernel_rfl)) (by decide) (fun K hK => ?_)
 (first | refine goes_ Tryd.func46 (by kernel_rfl) rfl #[.pointer (some ⟨g, 0, none⟩), .int .i64 21] (by rfl) rfl rfl (by first | rfl | (simp only [lma_, lmc_, lmn_]; first | done | rfl)) ?_ | refine RPW.cX_ Tryd.func46 (by kernel_rfl) rfl #[.pointer (some ⟨g, 0, none⟩), .int .i64 21] (by rfl) rfl rfl rfl (by first | rfl | (simp only [lma_, lmc_, lmn_]; first | done | rfl)) ?_ | refine RPW.cY_ Tryd.func46 (by kernel_rfl) rfl #[.pointer (some ⟨g, 0, none⟩), .int .i64 21] (by rfl) rfl rfl rfl (by first | rfl | (simp only [lma_, lmc_, lmn_]; first | done | rfl)) ?_)
 with_reducible refine (aB_.calls g s0_0 t103 t104 21 t110 t111 t112 w0 _ ?side1 ?side2 A7.out).mono ?_
 (case side1 => repeat (first | (with_reducible first | exact HI0.out | apply IsS82.alloc | apply IsS82.drewN | apply IsS82.drew | apply IsS82.set_1 | apply IsS82.set_2 | refine IsS82.far ?_ NB0_101.out _) | exact HI0.out))
 (case side2 => repeat (first | (with_reducible first | exact HB.out | apply bA_ | apply bN_ | apply bD_ | refine af_ ?_ (IsS82.ge HI0.out) | refine af_ ?_ GE101.out) | exact HB.out))
 rintro e w19 ⟨rfl, hi, hb, hk⟩
 have HS0_ := keep_cell hk (hHeld.1) (by first | (rw [add_block]; exact Kd.own_blk (IsS82.own_neN HI0.out HO107.out (by decide))) | (show (Addr.add _ _).block ≠ _; rw [add_block]; exact Kd.own_blk (IsS82.own_neN HI0.out HO107.out (by decide))) | exact Kd.own_blk (IsS82.own_neN HI0.out HO107.out (by decide)))
 have HS1_ := keep_cell hk (hHeld.2) (by first | (rw [add_block]; exact RPW.V_ne HL108_0.out (fun _ hk => hk.1.2) (by have h1_ := of_eq_true p109; have h2_ := of_eq_true q109; omega) (by decide)) | (show (Addr.add _ _).block ≠ _; rw [add_block]; exact RPW.V_ne HL108_0.out (fun _ hk => hk.1.2) (by have h1_ := of_eq_true p109; have h2_ := of_eq_true q109; omega) (by decide)) | exact RPW.V_ne HL108_0.out (fun _ hk => hk.1.2) (by have h1_ := of_eq_true p109; have h2_ := of_eq_true q109; omega) (by decide))
 refine ⟨_, rfl, ?_⟩
 have n0_ := Aside0.mk (ac_.blk hk (g' := gb101) (o := .cells #[.string (⟨#[]⟩ : ByteArray), .int .i64 0, .int .i64 0] 57 (0, 0)) (kz BK101.out) NB101_0.out (by simp))
 have n1_ := Aside0.mk (Kd.cN_ (Kd.N_keep (Kd.cN_ (ok := fun k_ => (k_ ≠ gb101 ∧ k_ ≠ g)) (nz HO107.out) (fun k_ hk_ => (⟨hk_, hk_.2⟩ : _ ∧ k_ ≠ g))) hk (fun _ h => h.2)) (fun _ h => h.1))
 have n2_ := Aside0.mk (Kd.cG_ (Kd.V_keep (Kd.cG_ (ok := fun k_ => ((k_ ≠ gb101 ∧ k_ ≠ g) ∧ some k_ ≠ (.slice (some ad108) t105.length co18 : Value).ownBlock)) (vz HL108_0.out) (fun k_ hk_ => (⟨hk_, hk_.1.2⟩ : _ ∧ k_ ≠ g))) hk (fun _ h => h.2)) (fun _ h => h.1))
 have n3_ := Aside0.mk (ac_.trans (by repeat (first | (with_reducible first | exact HK.out | apply ac_.set_ | apply ah_ | apply al_ | apply ai_ | refine aC_ ?_ GW101.out _) | exact HK.out)) hk (.inl rfl))
 have n4_ := Aside0.mk (hb)
 have n5_ := Aside0.mk (hi)
 clear BK101
 clear HO107
 clear HL108_0
 clear HK
 clear HB
 clear HI0
 have BK101 := n0_
 have HO107 := n1_
 have HL108_0 := n2_
 have HK := n3_
 have HB := n4_
 have HI0 := n5_
 clear n0_ n1_ n2_ n3_ n4_ n5_
 (try clear hb)
 refine hK.out _ _ ⟨HS0_, HS1_⟩ (fun hHeld => ?_)
 clear hK K
 refine norm_ (a' := ?_) ?_ ?_
 rotate_left
 ·show Act.put _ (some 16) _ = _
  simp only [Act.put, lsa_, ls0_, ls1_, i64_w, i32_w]
  rfl
 refine pu 8 17 #[t_,t_,t_,t_,t_,t_,t_,t_,t_,f_,f_] HT_ ?_
 refine pu 9 18 #[t_,t_,t_,t_,t_,t_,t_,t_,t_,t_,f_] HT_ ?_
 refine pu 10 4 #[t_,t_,t_,t_,t_,t_,t_,t_,t_,t_,t_] HT_ ?_
 refine done_ (dH_ HT_.out (by kernel_rfl)) ?_
 try go_wp2
 have pi116 : (0 ≤ (t102 : Int)) = True := eq_true (of_decide_eq_true (by assumption))
 have qi116 : (t102 < (t113.length : Int)) = True := eq_true (of_decide_eq_true (by assumption))
 have n0_ := Aside0.mk (Kd.N_drew HO107.out)
 have n1_ := Aside0.mk (Kd.V_drew HL108_0.out)
 have n2_ := Aside0.mk (cc_ BK101.out)
 have n3_ := Aside0.mk (IsS82.drew HI0.out)
 have n4_ := Aside0.mk (al_ HK.out)
 have n5_ := Aside0.mk (bD_ HB.out)
 clear HO107
 clear HL108_0
 clear BK101
 clear HI0
 clear HK
 clear HB
 have HO107 := n0_
 have HL108_0 := n1_
 have BK101 := n2_
 have HI0 := n3_
 have HK := n4_
 have HB := n5_
 clear n0_ n1_ n2_ n3_ n4_ n5_
 refine start_ (n := 10) (S := fun w' => True) (ds := []) #[f_,f_,f_,f_,f_,f_,f_,f_,f_,f_] (by kernel_rfl) rfl rfl trivial (fun hHeld => ?_); refine db_ bq_.tab3 bq_.bits3 (fun HT_ HW_ => ?_)
 generalize w19.drew = w20 at HO107 HL108_0 BK101 HI0 HK HB hHeld ⊢
 refine pu 1 20 #[f_,t_,f_,f_,f_,f_,f_,f_,f_,f_] HT_ ?_
 refine pu 4 23 #[f_,t_,f_,f_,t_,f_,f_,f_,f_,f_] HT_ ?_
 refine join_ (σ := Value × Addr × Nat) 1 #[t_,t_,t_,t_,t_,t_,t_,t_,t_,f_] (fun s_ => [(19, s_.1), (22, .string (rdOf ByteArray.empty t113 t102)), (24, .int .i64 t117), (25, .int .i64 t118), (5, .pointer (some ⟨s_.2.2, 0, none⟩)), (21, .pointer (some (s_.2.1.add (t102).toNat))), (26, .agg #[.string (rdOf ByteArray.empty t113 t102), .int .i64 t118, .int .i64 0])]) (fun s_ w' => (Kd.V (Kd.int .i64) 2 w' w.heap.size (fun k_ => some k_ ≠ (.slice (some ad108) t105.length co18 : Value).ownBlock ∧ some k_ ≠ (s_.1 : Value).ownBlock ∧ k_ ≠ g ∧ k_ ≠ gb101 ∧ k_ ≠ s_.2.2) (.slice (some ad109) (rd_L2 t105 t102).length c108_0) (rd_L2 t105 t102)) ∧ (Kd.N (Kd.slice 2 (Kd.int .i64)) 39 w' w.heap.size (fun k_ => some k_ ≠ (s_.1 : Value).ownBlock ∧ k_ ≠ g ∧ k_ ≠ gb101 ∧ k_ ≠ s_.2.2) (.slice (some ad108) t105.length co18) t105) ∧ (Kd.R Kd.string 9 w' w.heap.size (fun _ => True) s_.1 t113) ∧ (∃ c_, (s_.1 : Value) = .slice (some s_.2.1) t113.length c_) ∧ (w'.heap[gb101]? = some (.cells #[.string (⟨#[]⟩ : ByteArray), .int .i64 0, .int .i64 0] 57 (0, 0))) ∧ (w'.heap[s_.2.2]? = some (.cells #[.string (⟨#[]⟩ : ByteArray), .int .i64 0, .int .i64 0] 57 (0, 0))) ∧ (w.heap.size ≤ s_.2.2) ∧ (w0.heap.size ≤ s_.2.2) ∧ (g ≠ s_.2.2) ∧ (s_.2.2 ≠ g) ∧ (gb101 ≠ s_.2.2) ∧ (s_.2.2 ≠ gb101) ∧ (IsS82 w0 w' g s0_0 t111 t112) ∧ (ac_ w w' g none) ∧ (Below w0.heap.size w0 w')) ?_ ?_
 rotate_left
 ·intro hJ0_3_5_6_8
  refine join_ (σ := Value × Addr) 2 #[t_,t_,t_,t_,t_,t_,t_,t_,f_,f_] (fun s_ => [(19, s_.1), (22, .string (rdOf ByteArray.empty t113 t102)), (24, .int .i64 t117), (25, .int .i64 t118), (21, .pointer (some (s_.2.add (t102).toNat))), (26, .agg #[.string (rdOf ByteArray.empty t113 t102), .int .i64 t118, .int .i64 0])]) (fun s_ w' => (Kd.V (Kd.int .i64) 2 w' w.heap.size (fun k_ => some k_ ≠ (.slice (some ad108) t105.length co18 : Value).ownBlock ∧ some k_ ≠ (s_.1 : Value).ownBlock ∧ k_ ≠ g ∧ k_ ≠ gb101) (.slice (some ad109) (rd_L2 t105 t102).length c108_0) (rd_L2 t105 t102)) ∧ (Kd.N (Kd.slice 2 (Kd.int .i64)) 39 w' w.heap.size (fun k_ => some k_ ≠ (s_.1 : Value).ownBlock ∧ k_ ≠ g ∧ k_ ≠ gb101) (.slice (some ad108) t105.length co18) t105) ∧ (Kd.R Kd.string 9 w' w.heap.size (fun _ => True) s_.1 t113) ∧ (∃ c_, (s_.1 : Value) = .slice (some s_.2) t113.length c_) ∧ (w'.heap[gb101]? = some (.cells #[.string (⟨#[]⟩ : ByteArray), .int .i64 0, .int .i64 0] 57 (0, 0))) ∧ (IsS82 w0 w' g s0_0 t111 t112) ∧ (ac_ w w' g none) ∧ (Below w0.heap.size w0 w')) ?_ ?_
  rotate_left
  ·intro hJ0_3_5_6
   refine join_ (σ := Value × Addr × Nat) 3 #[t_,t_,t_,t_,t_,t_,f_,f_,t_,f_] (fun s_ => [(19, s_.1), (22, .string (rdOf ByteArray.empty t113 t102)), (24, .int .i64 t117), (5, .pointer (some ⟨s_.2.2, 0, none⟩)), (21, .pointer (some (s_.2.1.add (t102).toNat)))]) (fun s_ w' => (Kd.V (Kd.int .i64) 2 w' w.heap.size (fun k_ => some k_ ≠ (.slice (some ad108) t105.length co18 : Value).ownBlock ∧ some k_ ≠ (s_.1 : Value).ownBlock ∧ k_ ≠ g ∧ k_ ≠ gb101 ∧ k_ ≠ s_.2.2) (.slice (some ad109) (rd_L2 t105 t102).length c108_0) (rd_L2 t105 t102)) ∧ (Kd.N (Kd.slice 2 (Kd.int .i64)) 39 w' w.heap.size (fun k_ => some k_ ≠ (s_.1 : Value).ownBlock ∧ k_ ≠ g ∧ k_ ≠ gb101 ∧ k_ ≠ s_.2.2) (.slice (some ad108) t105.length co18) t105) ∧ (Kd.R Kd.string 9 w' w.heap.size (fun _ => True) s_.1 t113) ∧ (∃ c_, (s_.1 : Value) = .slice (some s_.2.1) t113.length c_) ∧ (w'.heap[gb101]? = some (.cells #[.string (⟨#[]⟩ : ByteArray), .int .i64 0, .int .i64 0] 57 (0, 0))) ∧ (w'.heap[s_.2.2]? = some (.cells #[.string (⟨#[]⟩ : ByteArray), .int .i64 0, .int .i64 0] 57 (0, 0))) ∧ (w.heap.size ≤ s_.2.2) ∧ (w0.heap.size ≤ s_.2.2) ∧ (g ≠ s_.2.2) ∧ (s_.2.2 ≠ g) ∧ (gb101 ≠ s_.2.2) ∧ (s_.2.2 ≠ gb101) ∧ (IsS82 w0 w' g s0_0 t111 t112) ∧ (ac_ w w' g none) ∧ (Below w0.heap.size w0 w')) ?_ ?_
   rotate_left
   ·intro hJ0_3_5_8
    refine join_ (σ := Value × Addr × Nat) 3 #[t_,t_,t_,f_,t_,t_,t_,f_,t_,f_] (fun s_ => [(19, s_.1), (24, .int .i64 t117), (25, .int .i64 t118), (5, .pointer (some ⟨s_.2.2, 0, none⟩)), (21, .pointer (some (s_.2.1.add (t102).toNat)))]) (fun s_ w' => (Kd.V (Kd.int .i64) 2 w' w.heap.size (fun k_ => some k_ ≠ (.slice (some ad108) t105.length co18 : Value).ownBlock ∧ some k_ ≠ (s_.1 : Value).ownBlock ∧ k_ ≠ g ∧ k_ ≠ gb101 ∧ k_ ≠ s_.2.2) (.slice (some ad109) (rd_L2 t105 t102).length c108_0) (rd_L2 t105 t102)) ∧ (Kd.N (Kd.slice 2 (Kd.int .i64)) 39 w' w.heap.size (fun k_ => some k_ ≠ (s_.1 : Value).ownBlock ∧ k_ ≠ g ∧ k_ ≠ gb101 ∧ k_ ≠ s_.2.2) (.slice (some ad108) t105.length co18) t105) ∧ (Kd.R Kd.string 9 w' w.heap.size (fun _ => True) s_.1 t113) ∧ (∃ c_, (s_.1 : Value) = .slice (some s_.2.1) t113.length c_) ∧ (w'.heap[gb101]? = some (.cells #[.string (⟨#[]⟩ : ByteArray), .int .i64 0, .int .i64 0] 57 (0, 0))) ∧ (w'.heap[s_.2.2]? = some (.cells #[.string (⟨#[]⟩ : ByteArray), .int .i64 0, .int .i64 0] 57 (0, 0))) ∧ (w.heap.size ≤ s_.2.2) ∧ (w0.heap.size ≤ s_.2.2) ∧ (g ≠ s_.2.2) ∧ (s_.2.2 ≠ g) ∧ (gb101 ≠ s_.2.2) ∧ (s_.2.2 ≠ gb101) ∧ (IsS82 w0 w' g s0_0 t111 t112) ∧ (ac_ w w' g none) ∧ (Below w0.heap.size w0 w')) ?_ ?_
    rotate_left
    ·intro hJ0_5_6_8
     refine join_ (σ := Value × Addr) 4 #[t_,t_,t_,t_,t_,t_,f_,f_,f_,f_] (fun s_ => [(19, s_.1), (22, .string (rdOf ByteArray.empty t113 t102)), (24, .int .i64 t117), (21, .pointer (some (s_.2.add (t102).toNat)))]) (fun s_ w' => (Kd.V (Kd.int .i64) 2 w' w.heap.size (fun k_ => some k_ ≠ (.slice (some ad108) t105.length co18 : Value).ownBlock ∧ some k_ ≠ (s_.1 : Value).ownBlock ∧ k_ ≠ g ∧ k_ ≠ gb101) (.slice (some ad109) (rd_L2 t105 t102).length c108_0) (rd_L2 t105 t102)) ∧ (Kd.N (Kd.slice 2 (Kd.int .i64)) 39 w' w.heap.size (fun k_ => some k_ ≠ (s_.1 : Value).ownBlock ∧ k_ ≠ g ∧ k_ ≠ gb101) (.slice (some ad108) t105.length co18) t105) ∧ (Kd.R Kd.string 9 w' w.heap.size (fun _ => True) s_.1 t113) ∧ (∃ c_, (s_.1 : Value) = .slice (some s_.2) t113.length c_) ∧ (w'.heap[gb101]? = some (.cells #[.string (⟨#[]⟩ : ByteArray), .int .i64 0, .int .i64 0] 57 (0, 0))) ∧ (IsS82 w0 w' g s0_0 t111 t112) ∧ (ac_ w w' g none) ∧ (Below w0.heap.size w0 w')) ?_ ?_
     rotate_left
     ·intro hJ0_3_5
      refine join_ (σ := Value × Addr × Nat) 4 #[t_,t_,t_,t_,t_,f_,f_,f_,t_,f_] (fun s_ => [(19, s_.1), (22, .string (rdOf ByteArray.empty t113 t102)), (5, .pointer (some ⟨s_.2.2, 0, none⟩)), (21, .pointer (some (s_.2.1.add (t102).toNat)))]) (fun s_ w' => (Kd.V (Kd.int .i64) 2 w' w.heap.size (fun k_ => some k_ ≠ (.slice (some ad108) t105.length co18 : Value).ownBlock ∧ some k_ ≠ (s_.1 : Value).ownBlock ∧ k_ ≠ g ∧ k_ ≠ gb101 ∧ k_ ≠ s_.2.2) (.slice (some ad109) (rd_L2 t105 t102).length c108_0) (rd_L2 t105 t102)) ∧ (Kd.N (Kd.slice 2 (Kd.int .i64)) 39 w' w.heap.size (fun k_ => some k_ ≠ (s_.1 : Value).ownBlock ∧ k_ ≠ g ∧ k_ ≠ gb101 ∧ k_ ≠ s_.2.2) (.slice (some ad108) t105.length co18) t105) ∧ (Kd.R Kd.string 9 w' w.heap.size (fun _ => True) s_.1 t113) ∧ (∃ c_, (s_.1 : Value) = .slice (some s_.2.1) t113.length c_) ∧ (w'.heap[gb101]? = some (.cells #[.string (⟨#[]⟩ : ByteArray), .int .i64 0, .int .i64 0] 57 (0, 0))) ∧ (w'.heap[s_.2.2]? = some (.cells #[.string (⟨#[]⟩ : ByteArray), .int .i64 0, .int .i64 0] 57 (0, 0))) ∧ (w.heap.size ≤ s_.2.2) ∧ (w0.heap.size ≤ s_.2.2) ∧ (g ≠ s_.2.2) ∧ (s_.2.2 ≠ g) ∧ (gb101 ≠ s_.2.2) ∧ (s_.2.2 ≠ gb101) ∧ (IsS82 w0 w' g s0_0 t111 t112) ∧ (ac_ w w' g none) ∧ (Below w0.heap.size w0 w')) ?_ ?_
      rotate_left
      ·intro hJ0_3_8
       refine join_ (σ := Value × Addr) 4 #[t_,t_,t_,f_,t_,t_,t_,f_,f_,f_] (fun s_ => [(19, s_.1), (24, .int .i64 t117), (25, .int .i64 t118), (21, .pointer (some (s_.2.add (t102).toNat)))]) (fun s_ w' => (Kd.V (Kd.int .i64) 2 w' w.heap.size (fun k_ => some k_ ≠ (.slice (some ad108) t105.length co18 : Value).ownBlock ∧ some k_ ≠ (s_.1 : Value).ownBlock ∧ k_ ≠ g ∧ k_ ≠ gb101) (.slice (some ad109) (rd_L2 t105 t102).length c108_0) (rd_L2 t105 t102)) ∧ (Kd.N (Kd.slice 2 (Kd.int .i64)) 39 w' w.heap.size (fun k_ => some k_ ≠ (s_.1 : Value).ownBlock ∧ k_ ≠ g ∧ k_ ≠ gb101) (.slice (some ad108) t105.length co18) t105) ∧ (Kd.R Kd.string 9 w' w.heap.size (fun _ => True) s_.1 t113) ∧ (∃ c_, (s_.1 : Value) = .slice (some s_.2) t113.length c_) ∧ (w'.heap[gb101]? = some (.cells #[.string (⟨#[]⟩ : ByteArray), .int .i64 0, .int .i64 0] 57 (0, 0))) ∧ (IsS82 w0 w' g s0_0 t111 t112) ∧ (ac_ w w' g none) ∧ (Below w0.heap.size w0 w')) ?_ ?_
       rotate_left
       ·intro hJ0_5_6
        refine join_ (σ := Value × Addr × Nat) 4 #[t_,t_,t_,f_,t_,t_,f_,f_,t_,f_] (fun s_ => [(19, s_.1), (24, .int .i64 t117), (5, .pointer (some ⟨s_.2.2, 0, none⟩)), (21, .pointer (some (s_.2.1.add (t102).toNat)))]) (fun s_ w' => (Kd.V (Kd.int .i64) 2 w' w.heap.size (fun k_ => some k_ ≠ (.slice (some ad108) t105.length co18 : Value).ownBlock ∧ some k_ ≠ (s_.1 : Value).ownBlock ∧ k_ ≠ g ∧ k_ ≠ gb101 ∧ k_ ≠ s_.2.2) (.slice (some ad109) (rd_L2 t105 t102).length c108_0) (rd_L2 t105 t102)) ∧ (Kd.N (Kd.slice 2 (Kd.int .i64)) 39 w' w.heap.size (fun k_ => some k_ ≠ (s_.1 : Value).ownBlock ∧ k_ ≠ g ∧ k_ ≠ gb101 ∧ k_ ≠ s_.2.2) (.slice (some ad108) t105.length co18) t105) ∧ (Kd.R Kd.string 9 w' w.heap.size (fun _ => True) s_.1 t113) ∧ (∃ c_, (s_.1 : Value) = .slice (some s_.2.1) t113.length c_) ∧ (w'.heap[gb101]? = some (.cells #[.string (⟨#[]⟩ : ByteArray), .int .i64 0, .int .i64 0] 57 (0, 0))) ∧ (w'.heap[s_.2.2]? = some (.cells #[.string (⟨#[]⟩ : ByteArray), .int .i64 0, .int .i64 0] 57 (0, 0))) ∧ (w.heap.size ≤ s_.2.2) ∧ (w0.heap.size ≤ s_.2.2) ∧ (g ≠ s_.2.2) ∧ (s_.2.2 ≠ g) ∧ (gb101 ≠ s_.2.2) ∧ (s_.2.2 ≠ gb101) ∧ (IsS82 w0 w' g s0_0 t111 t112) ∧ (ac_ w w' g none) ∧ (Below w0.heap.size w0 w')) ?_ ?_
        rotate_left
        ·intro hJ0_5_8
         refine join_ (σ := Value × Addr) 5 #[t_,t_,t_,t_,t_,f_,f_,f_,f_,f_] (fun s_ => [(19, s_.1), (22, .string (rdOf ByteArray.empty t113 t102)), (21, .pointer (some (s_.2.add (t102).toNat)))]) (fun s_ w' => (Kd.V (Kd.int .i64) 2 w' w.heap.size (fun k_ => some k_ ≠ (.slice (some ad108) t105.length co18 : Value).ownBlock ∧ some k_ ≠ (s_.1 : Value).ownBlock ∧ k_ ≠ g ∧ k_ ≠ gb101) (.slice (some ad109) (rd_L2 t105 t102).length c108_0) (rd_L2 t105 t102)) ∧ (Kd.N (Kd.slice 2 (Kd.int .i64)) 39 w' w.heap.size (fun k_ => some k_ ≠ (s_.1 : Value).ownBlock ∧ k_ ≠ g ∧ k_ ≠ gb101) (.slice (some ad108) t105.length co18) t105) ∧ (Kd.R Kd.string 9 w' w.heap.size (fun _ => True) s_.1 t113) ∧ (∃ c_, (s_.1 : Value) = .slice (some s_.2) t113.length c_) ∧ (w'.heap[gb101]? = some (.cells #[.string (⟨#[]⟩ : ByteArray), .int .i64 0, .int .i64 0] 57 (0, 0))) ∧ (IsS82 w0 w' g s0_0 t111 t112) ∧ (ac_ w w' g none) ∧ (Below w0.heap.size w0 w')) ?_ ?_
         rotate_left
         ·intro hJ0_3
          refine join_ (σ := Value × Addr) 5 #[t_,t_,t_,f_,t_,t_,f_,f_,f_,f_] (fun s_ => [(19, s_.1), (24, .int .i64 t117), (21, .pointer (some (s_.2.add (t102).toNat)))]) (fun s_ w' => (Kd.V (Kd.int .i64) 2 w' w.heap.size (fun k_ => some k_ ≠ (.slice (some ad108) t105.length co18 : Value).ownBlock ∧ some k_ ≠ (s_.1 : Value).ownBlock ∧ k_ ≠ g ∧ k_ ≠ gb101) (.slice (some ad109) (rd_L2 t105 t102).length c108_0) (rd_L2 t105 t102)) ∧ (Kd.N (Kd.slice 2 (Kd.int .i64)) 39 w' w.heap.size (fun k_ => some k_ ≠ (s_.1 : Value).ownBlock ∧ k_ ≠ g ∧ k_ ≠ gb101) (.slice (some ad108) t105.length co18) t105) ∧ (Kd.R Kd.string 9 w' w.heap.size (fun _ => True) s_.1 t113) ∧ (∃ c_, (s_.1 : Value) = .slice (some s_.2) t113.length c_) ∧ (w'.heap[gb101]? = some (.cells #[.string (⟨#[]⟩ : ByteArray), .int .i64 0, .int .i64 0] 57 (0, 0))) ∧ (IsS82 w0 w' g s0_0 t111 t112) ∧ (ac_ w w' g none) ∧ (Below w0.heap.size w0 w')) ?_ ?_
          rotate_left
          ·intro hJ0_5
           refine join_ (σ := Value × Addr × Nat) 5 #[t_,t_,t_,f_,t_,f_,f_,f_,t_,f_] (fun s_ => [(19, s_.1), (5, .pointer (some ⟨s_.2.2, 0, none⟩)), (21, .pointer (some (s_.2.1.add (t102).toNat)))]) (fun s_ w' => (Kd.V (Kd.int .i64) 2 w' w.heap.size (fun k_ => some k_ ≠ (.slice (some ad108) t105.length co18 : Value).ownBlock ∧ some k_ ≠ (s_.1 : Value).ownBlock ∧ k_ ≠ g ∧ k_ ≠ gb101 ∧ k_ ≠ s_.2.2) (.slice (some ad109) (rd_L2 t105 t102).length c108_0) (rd_L2 t105 t102)) ∧ (Kd.N (Kd.slice 2 (Kd.int .i64)) 39 w' w.heap.size (fun k_ => some k_ ≠ (s_.1 : Value).ownBlock ∧ k_ ≠ g ∧ k_ ≠ gb101 ∧ k_ ≠ s_.2.2) (.slice (some ad108) t105.length co18) t105) ∧ (Kd.R Kd.string 9 w' w.heap.size (fun _ => True) s_.1 t113) ∧ (∃ c_, (s_.1 : Value) = .slice (some s_.2.1) t113.length c_) ∧ (w'.heap[gb101]? = some (.cells #[.string (⟨#[]⟩ : ByteArray), .int .i64 0, .int .i64 0] 57 (0, 0))) ∧ (w'.heap[s_.2.2]? = some (.cells #[.string (⟨#[]⟩ : ByteArray), .int .i64 0, .int .i64 0] 57 (0, 0))) ∧ (w.heap.size ≤ s_.2.2) ∧ (w0.heap.size ≤ s_.2.2) ∧ (g ≠ s_.2.2) ∧ (s_.2.2 ≠ g) ∧ (gb101 ≠ s_.2.2) ∧ (s_.2.2 ≠ gb101) ∧ (IsS82 w0 w' g s0_0 t111 t112) ∧ (ac_ w w' g none) ∧ (Below w0.heap.size w0 w')) ?_ ?_
           rotate_left
           ·intro hJ0_8
            refine join_ (σ := Value × Addr) 6 #[t_,t_,t_,f_,t_,f_,f_,f_,f_,f_] (fun s_ => [(19, s_.1), (21, .pointer (some (s_.2.add (t102).toNat)))]) (fun s_ w' => (Kd.V (Kd.int .i64) 2 w' w.heap.size (fun k_ => some k_ ≠ (.slice (some ad108) t105.length co18 : Value).ownBlock ∧ some k_ ≠ (s_.1 : Value).ownBlock ∧ k_ ≠ g ∧ k_ ≠ gb101) (.slice (some ad109) (rd_L2 t105 t102).length c108_0) (rd_L2 t105 t102)) ∧ (Kd.N (Kd.slice 2 (Kd.int .i64)) 39 w' w.heap.size (fun k_ => some k_ ≠ (s_.1 : Value).ownBlock ∧ k_ ≠ g ∧ k_ ≠ gb101) (.slice (some ad108) t105.length co18) t105) ∧ (Kd.R Kd.string 9 w' w.heap.size (fun _ => True) s_.1 t113) ∧ (∃ c_, (s_.1 : Value) = .slice (some s_.2) t113.length c_) ∧ (w'.heap[gb101]? = some (.cells #[.string (⟨#[]⟩ : ByteArray), .int .i64 0, .int .i64 0] 57 (0, 0))) ∧ (IsS82 w0 w' g s0_0 t111 t112) ∧ (ac_ w w' g none) ∧ (Below w0.heap.size w0 w')) ?_ ?_
            rotate_left
            ·intro hJ0
             refine join_ (σ := Nat) 7 #[f_,t_,f_,f_,t_,f_,f_,f_,t_,f_] (fun s_ => [(5, .pointer (some ⟨s_, 0, none⟩))]) (fun s_ w' => (Kd.V (Kd.int .i64) 2 w' w.heap.size (fun k_ => some k_ ≠ (.slice (some ad108) t105.length co18 : Value).ownBlock ∧ k_ ≠ g ∧ k_ ≠ gb101 ∧ k_ ≠ s_) (.slice (some ad109) (rd_L2 t105 t102).length c108_0) (rd_L2 t105 t102)) ∧ (Kd.N (Kd.slice 2 (Kd.int .i64)) 39 w' w.heap.size (fun k_ => k_ ≠ g ∧ k_ ≠ gb101 ∧ k_ ≠ s_) (.slice (some ad108) t105.length co18) t105) ∧ (w'.heap[gb101]? = some (.cells #[.string (⟨#[]⟩ : ByteArray), .int .i64 0, .int .i64 0] 57 (0, 0))) ∧ (w'.heap[s_]? = some (.cells #[.string (⟨#[]⟩ : ByteArray), .int .i64 0, .int .i64 0] 57 (0, 0))) ∧ (w.heap.size ≤ s_) ∧ (w0.heap.size ≤ s_) ∧ (g ≠ s_) ∧ (s_ ≠ g) ∧ (gb101 ≠ s_) ∧ (s_ ≠ gb101) ∧ (IsS82 w0 w' g s0_0 t111 t112) ∧ (ac_ w w' g none) ∧ (Below w0.heap.size w0 w')) ?_ ?_
             rotate_left
             ·intro hJ8
              refine two_ (i := 0) (j := 8) (Ni := some 19) (Nj := some 5) #[t_,t_,f_,f_,t_,f_,f_,f_,f_,f_] #[f_,t_,f_,f_,t_,f_,f_,f_,t_,f_] rfl rfl rfl rfl (two_of HT_.out (by kernel_rfl)) (by decide) (by decide) (fun K hK => ?_) (fun K hK => ?_)
              ·skip
               (first | refine goes_ Tryd.func69 (by kernel_rfl) rfl #[] (by rfl) rfl rfl (by first | rfl | (simp only [lma_, lmc_, lmn_]; first | done | rfl)) ?_ | refine RPW.cX_ Tryd.func69 (by kernel_rfl) rfl #[] (by rfl) rfl rfl rfl (by first | rfl | (simp only [lma_, lmc_, lmn_]; first | done | rfl)) ?_ | refine RPW.cY_ Tryd.func69 (by kernel_rfl) rfl #[] (by rfl) rfl rfl rfl (by first | rfl | (simp only [lma_, lmc_, lmn_]; first | done | rfl)) ?_)
               with_reducible refine (ck_.calls  t113 _ A8.out).mono ?_
               rintro e w21 ⟨v114, rfl, ho0, hb⟩
               refine ⟨_, rfl, ?_⟩
               have n0_ := Aside0.mk (Kd.N_elder' (nz HO107.out) (Kd.bh_ ho0) hb)
               have n1_ := Aside0.mk (Kd.dB_ (vz HL108_0.out) (Kd.bh_ ho0) hb)
               have n2_ := Aside0.mk (Kd.bi_ ho0 (br_ (w := w) (g := g) (row := none) (by repeat (first | (with_reducible first | exact HK.out | apply ac_.set_ | apply ah_ | apply al_ | apply ai_ | refine aC_ ?_ GW101.out _) | exact HK.out))))
               have n3_ := Aside0.mk (IsS82.below (by repeat (first | (with_reducible first | exact HI0.out | apply IsS82.alloc | apply IsS82.drewN | apply IsS82.drew | apply IsS82.set_1 | apply IsS82.set_2 | refine IsS82.far ?_ NB0_101.out _) | exact HI0.out)) hb)
               have n4_ := Aside0.mk (aS_ (kz BK101.out) hb)
               have n5_ := Aside0.mk (ac_.trans (by repeat (first | (with_reducible first | exact HK.out | apply ac_.set_ | apply ah_ | apply al_ | apply ai_ | refine aC_ ?_ GW101.out _) | exact HK.out)) (ac_.of_below hb g none) (.inl rfl))
               have n6_ := Aside0.mk (ab_ (by repeat (first | (with_reducible first | exact HB.out | apply bA_ | apply bN_ | apply bD_ | refine af_ ?_ (IsS82.ge HI0.out) | refine af_ ?_ GE101.out) | exact HB.out)) hb)
               clear HO107
               clear HL108_0
               clear HI0
               clear BK101
               clear HK
               clear HB
               have HO107 := n0_
               have HL108_0 := n1_
               have HO115 := n2_
               have HI0 := n3_
               have BK101 := n4_
               have HK := n5_
               have HB := n6_
               clear n0_ n1_ n2_ n3_ n4_ n5_ n6_
               (try clear hb)
               (try clear ho0)
               obtain ⟨Ao22, co22, eo22⟩ := Kd.bo_ HO115.out
               subst eo22
               obtain ⟨ado22, fo22, _⟩ := Kd.cW_ (Kd.aj_ HO115.out).2.2 0 (by decide) (by have h1_ := of_eq_true pi116; have h2_ := of_eq_true qi116; omega)
               cases fo22
               refine hK.out _ _ trivial (fun hHeld => ?_)
               clear hK K
               refine norm_ (a' := ?_) ?_ ?_
               rotate_left
               ·show Act.put _ (some 19) _ = _
                simp only [Act.put, lsa_, ls0_, ls1_, i64_w, i32_w]
                rfl
               refine pu 2 21 #[t_,t_,t_,f_,t_,f_,f_,f_,f_,f_] HT_ ?_
               exact norm_ (by first | (simp only [bK_, Act.put, lsa_, ls0_, ls1_]; done) | (simp only [bK_, Act.put, lsa_, ls0_, ls1_]; rfl)) (hJ0 (.slice (some ado22) t113.length co22, ado22) _ ⟨(vz (Kd.cG_ HL108_0.out (fun _ hk => ⟨hk.1.2, ⟨hk.2, ⟨hk.1.1.2, hk.1.1.1⟩⟩⟩))), (nz (Kd.cN_ HO107.out (fun _ hk => ⟨hk.2, ⟨hk.1.2, hk.1.1⟩⟩))), (rz HO115.out), ⟨_, rfl⟩, (kz BK101.out), (by repeat (first | (with_reducible first | exact HI0.out | apply IsS82.alloc | apply IsS82.drewN | apply IsS82.drew | apply IsS82.set_1 | apply IsS82.set_2 | refine IsS82.far ?_ NB0_101.out _) | exact HI0.out)), (by repeat (first | (with_reducible first | exact HK.out | apply ac_.set_ | apply ah_ | apply al_ | apply ai_ | refine aC_ ?_ GW101.out _) | exact HK.out)), (by repeat (first | (with_reducible first | exact HB.out | apply bA_ | apply bN_ | apply bD_ | refine af_ ?_ (IsS82.ge HI0.out) | refine af_ ?_ GE101.out) | exact HB.out))⟩)
              ·skip
               refine box_step ?hg (N := 5) ?hd (cs := #[.string (⟨#[]⟩ : ByteArray), .int .i64 0, .int .i64 0]) (t := 57) ?hr ?_; (case hd => rfl); (case hg => rfl); (case hr => (go_simp; try rfl))
               intro gb119 hg w21 hbox hb
               have n0_ := Aside0.mk (Kd.N_below (Kd.N_elderB (nz HO107.out) gb119 (Nat.le_of_eq hg.symm)) hb)
               have n1_ := Aside0.mk (Kd.V_below (Kd.V_elderB (vz HL108_0.out) gb119 (Nat.le_of_eq hg.symm)) hb)
               have n2_ := Aside0.mk (IsS82.below (by repeat (first | (with_reducible first | exact HI0.out | apply IsS82.alloc | apply IsS82.drewN | apply IsS82.drew | apply IsS82.set_1 | apply IsS82.set_2 | refine IsS82.far ?_ NB0_101.out _) | exact HI0.out)) hb)
               have n3_ := Aside0.mk (aS_ (kz BK101.out) hb)
               have n4_ := Aside0.mk (ac_.trans (by repeat (first | (with_reducible first | exact HK.out | apply ac_.set_ | apply ah_ | apply al_ | apply ai_ | refine aC_ ?_ GW101.out _) | exact HK.out)) (ac_.of_below hb g none) (.inl rfl))
               have n5_ := Aside0.mk (ab_ (by repeat (first | (with_reducible first | exact HB.out | apply bA_ | apply bN_ | apply bD_ | refine af_ ?_ (IsS82.ge HI0.out) | refine af_ ?_ GE101.out) | exact HB.out)) hb)
               have n6_ := Aside0.mk (hbox)
               have n7_ := Aside0.mk ((by rw [hg]; exact (br_ (w := w) (g := g) (row := none) (by repeat (first | (with_reducible first | exact HK.out | apply ac_.set_ | apply ah_ | apply al_ | apply ai_ | refine aC_ ?_ GW101.out _) | exact HK.out))) : w.heap.size ≤ gb119))
               have n8_ := Aside0.mk ((Nat.le_trans HW0.out (by rw [hg]; exact (br_ (w := w) (g := g) (row := none) (by repeat (first | (with_reducible first | exact HK.out | apply ac_.set_ | apply ah_ | apply al_ | apply ai_ | refine aC_ ?_ GW101.out _) | exact HK.out))) : w.heap.size ≤ gb119) : w0.heap.size ≤ gb119))
               have n9_ := Aside0.mk ((by rw [hg]; exact Nat.ne_of_lt (de_ (kz BK101.out)) : gb101 ≠ gb119))
               have n10_ := Aside0.mk ((by rw [hg]; exact Nat.ne_of_gt (de_ (kz BK101.out)) : gb119 ≠ gb101))
               have n11_ := Aside0.mk ((by rw [hg]; exact Nat.ne_of_lt (IsS82.lt (show IsS82 w0 _ g s0_0 t111 t112 from by repeat (first | (with_reducible first | exact HI0.out | apply IsS82.alloc | apply IsS82.drewN | apply IsS82.drew | apply IsS82.set_1 | apply IsS82.set_2 | refine IsS82.far ?_ NB0_101.out _) | exact HI0.out))) : g ≠ gb119))
               have n12_ := Aside0.mk ((by rw [hg]; exact Nat.ne_of_gt (IsS82.lt (show IsS82 w0 _ g s0_0 t111 t112 from by repeat (first | (with_reducible first | exact HI0.out | apply IsS82.alloc | apply IsS82.drewN | apply IsS82.drew | apply IsS82.set_1 | apply IsS82.set_2 | refine IsS82.far ?_ NB0_101.out _) | exact HI0.out))) : gb119 ≠ g))
               clear HO107
               clear HL108_0
               clear HI0
               clear BK101
               clear HK
               clear HB
               have HO107 := n0_
               have HL108_0 := n1_
               have HI0 := n2_
               have BK101 := n3_
               have HK := n4_
               have HB := n5_
               have BK119 := n6_
               have GW119 := n7_
               have GE119 := n8_
               have NB101_119 := n9_
               have NB119_101 := n10_
               have NB0_119 := n11_
               have NB119_0 := n12_
               clear n0_ n1_ n2_ n3_ n4_ n5_ n6_ n7_ n8_ n9_ n10_ n11_ n12_
               clear hb hbox hg
               refine hK.out _ _ trivial (fun hHeld => ?_)
               clear hK K
               refine norm_ (a' := ?_) ?_ ?_
               rotate_left
               ·show Act.put _ (some 5) _ = _
                simp only [Act.put, lsa_, ls0_, ls1_, i64_w, i32_w]
                rfl
               exact norm_ (by first | (simp only [bK_, Act.put, lsa_, ls0_, ls1_]; done) | (simp only [bK_, Act.put, lsa_, ls0_, ls1_]; rfl)) (hJ8 (gb119) _ ⟨(vz (Kd.cG_ HL108_0.out (fun _ hk => ⟨hk.1.2, ⟨hk.1.1.2, ⟨hk.1.1.1, hk.2⟩⟩⟩))), (nz (Kd.cN_ HO107.out (fun _ hk => ⟨hk.1.2, ⟨hk.1.1, hk.2⟩⟩))), (kz BK101.out), (kz BK119.out), GW119.out, GE119.out, NB0_119.out, NB119_0.out, NB101_119.out, NB119_101.out, (by repeat (first | (with_reducible first | exact HI0.out | apply IsS82.alloc | apply IsS82.drewN | apply IsS82.drew | apply IsS82.set_1 | apply IsS82.set_2 | refine IsS82.far ?_ NB0_101.out _ | refine IsS82.far ?_ NB0_119.out _) | exact HI0.out)), (by repeat (first | (with_reducible first | exact HK.out | apply ac_.set_ | apply ah_ | apply al_ | apply ai_ | refine aC_ ?_ GW101.out _ | refine aC_ ?_ GW119.out _) | exact HK.out)), (by repeat (first | (with_reducible first | exact HB.out | apply bA_ | apply bN_ | apply bD_ | refine af_ ?_ (IsS82.ge HI0.out) | refine af_ ?_ GE101.out | refine af_ ?_ GE119.out) | exact HB.out))⟩)
             ·skip
              rintro gb119 w22 ⟨h0_, h1_, h2_, h3_, h4_, h5_, h6_, h7_, h8_, h9_, h10_, h11_, h12_⟩
              have n0_ : Aside0 (Kd.V (Kd.int .i64) 2 w22 w.heap.size (fun k_ => some k_ ≠ (.slice (some ad108) t105.length co18 : Value).ownBlock ∧ k_ ≠ g ∧ k_ ≠ gb101 ∧ k_ ≠ gb119) (.slice (some ad109) (rd_L2 t105 t102).length c108_0) (rd_L2 t105 t102)) := ⟨h0_⟩
              have n1_ : Aside0 (Kd.N (Kd.slice 2 (Kd.int .i64)) 39 w22 w.heap.size (fun k_ => k_ ≠ g ∧ k_ ≠ gb101 ∧ k_ ≠ gb119) (.slice (some ad108) t105.length co18) t105) := ⟨h1_⟩
              have n2_ : Aside0 (w22.heap[gb101]? = some (.cells #[.string (⟨#[]⟩ : ByteArray), .int .i64 0, .int .i64 0] 57 (0, 0))) := ⟨h2_⟩
              have n3_ : Aside0 (w22.heap[gb119]? = some (.cells #[.string (⟨#[]⟩ : ByteArray), .int .i64 0, .int .i64 0] 57 (0, 0))) := ⟨h3_⟩
              have n4_ : Aside0 (w.heap.size ≤ gb119) := ⟨h4_⟩
              have n5_ : Aside0 (w0.heap.size ≤ gb119) := ⟨h5_⟩
              have n6_ : Aside0 (g ≠ gb119) := ⟨h6_⟩
              have n7_ : Aside0 (gb119 ≠ g) := ⟨h7_⟩
              have n8_ : Aside0 (gb101 ≠ gb119) := ⟨h8_⟩
              have n9_ : Aside0 (gb119 ≠ gb101) := ⟨h9_⟩
              have n10_ : Aside0 (IsS82 w0 w22 g s0_0 t111 t112) := ⟨h10_⟩
              have n11_ : Aside0 (ac_ w w22 g none) := ⟨h11_⟩
              have n12_ : Aside0 (Below w0.heap.size w0 w22) := ⟨h12_⟩
              clear HO107
              clear HL108_0
              clear BK101
              clear HI0
              clear HK
              clear HB
              clear h0_ h1_ h2_ h3_ h4_ h5_ h6_ h7_ h8_ h9_ h10_ h11_ h12_
              have HL108_0 := n0_
              have HO107 := n1_
              have BK101 := n2_
              have BK119 := n3_
              have GW119 := n4_
              have GE119 := n5_
              have NB0_119 := n6_
              have NB119_0 := n7_
              have NB101_119 := n8_
              have NB119_101 := n9_
              have HI0 := n10_
              have HK := n11_
              have HB := n12_
              clear n0_ n1_ n2_ n3_ n4_ n5_ n6_ n7_ n8_ n9_ n10_ n11_ n12_
              have hHeld := trivial
              refine norm_ (a' := ?_) ?_ ?_
              rotate_left
              ·simp only [bK_, Act.put, lsa_, ls0_, ls1_]
               rfl
              refine one_ (i := 0) (N := some 19) #[t_,t_,f_,f_,t_,f_,f_,f_,t_,f_] rfl rfl (cV_ HT_.out (by kernel_rfl)) (by decide) (fun K hK => ?_)
              (first | refine goes_ Tryd.func69 (by kernel_rfl) rfl #[] (by rfl) rfl rfl (by first | rfl | (simp only [lma_, lmc_, lmn_]; first | done | rfl)) ?_ | refine RPW.cX_ Tryd.func69 (by kernel_rfl) rfl #[] (by rfl) rfl rfl rfl (by first | rfl | (simp only [lma_, lmc_, lmn_]; first | done | rfl)) ?_ | refine RPW.cY_ Tryd.func69 (by kernel_rfl) rfl #[] (by rfl) rfl rfl rfl (by first | rfl | (simp only [lma_, lmc_, lmn_]; first | done | rfl)) ?_)
              with_reducible refine (ck_.calls  t113 _ A8.out).mono ?_
              rintro e w23 ⟨v114, rfl, ho0, hb⟩
              refine ⟨_, rfl, ?_⟩
              have n0_ := Aside0.mk (Kd.N_elder' (nz HO107.out) (Kd.bh_ ho0) hb)
              have n1_ := Aside0.mk (Kd.dB_ (vz HL108_0.out) (Kd.bh_ ho0) hb)
              have n2_ := Aside0.mk (Kd.bi_ ho0 (br_ (w := w) (g := g) (row := none) (by repeat (first | (with_reducible first | exact HK.out | apply ac_.set_ | apply ah_ | apply al_ | apply ai_ | refine aC_ ?_ GW101.out _ | refine aC_ ?_ GW119.out _) | exact HK.out))))
              have n3_ := Aside0.mk (IsS82.below (by repeat (first | (with_reducible first | exact HI0.out | apply IsS82.alloc | apply IsS82.drewN | apply IsS82.drew | apply IsS82.set_1 | apply IsS82.set_2 | refine IsS82.far ?_ NB0_101.out _ | refine IsS82.far ?_ NB0_119.out _) | exact HI0.out)) hb)
              have n4_ := Aside0.mk (aS_ (kz BK101.out) hb)
              have n5_ := Aside0.mk (aS_ (kz BK119.out) hb)
              have n6_ := Aside0.mk (ac_.trans (by repeat (first | (with_reducible first | exact HK.out | apply ac_.set_ | apply ah_ | apply al_ | apply ai_ | refine aC_ ?_ GW101.out _ | refine aC_ ?_ GW119.out _) | exact HK.out)) (ac_.of_below hb g none) (.inl rfl))
              have n7_ := Aside0.mk (ab_ (by repeat (first | (with_reducible first | exact HB.out | apply bA_ | apply bN_ | apply bD_ | refine af_ ?_ (IsS82.ge HI0.out) | refine af_ ?_ GE101.out | refine af_ ?_ GE119.out) | exact HB.out)) hb)
              clear HO107
              clear HL108_0
              clear HI0
              clear BK101
              clear BK119
              clear HK
              clear HB
              have HO107 := n0_
              have HL108_0 := n1_
              have HO115 := n2_
              have HI0 := n3_
              have BK101 := n4_
              have BK119 := n5_
              have HK := n6_
              have HB := n7_
              clear n0_ n1_ n2_ n3_ n4_ n5_ n6_ n7_
              (try clear hb)
              (try clear ho0)
              obtain ⟨Ao24, co24, eo24⟩ := Kd.bo_ HO115.out
              subst eo24
              obtain ⟨ado24, fo24, _⟩ := Kd.cW_ (Kd.aj_ HO115.out).2.2 0 (by decide) (by have h1_ := of_eq_true pi116; have h2_ := of_eq_true qi116; omega)
              cases fo24
              refine hK.out _ _ trivial (fun hHeld => ?_)
              clear hK K
              refine norm_ (a' := ?_) ?_ ?_
              rotate_left
              ·show Act.put _ (some 19) _ = _
               simp only [Act.put, lsa_, ls0_, ls1_, i64_w, i32_w]
               rfl
              refine pu 2 21 #[t_,t_,t_,f_,t_,f_,f_,f_,t_,f_] HT_ ?_
              exact norm_ (by first | (simp only [bK_, Act.put, lsa_, ls0_, ls1_]; done) | (simp only [bK_, Act.put, lsa_, ls0_, ls1_]; rfl)) (hJ0_8 (.slice (some ado24) t113.length co24, ado24, gb119) _ ⟨(vz (Kd.cG_ HL108_0.out (fun _ hk => ⟨hk.1.1, ⟨hk.2, ⟨hk.1.2.1, ⟨hk.1.2.2.1, hk.1.2.2.2⟩⟩⟩⟩))), (nz (Kd.cN_ HO107.out (fun _ hk => ⟨hk.2, ⟨hk.1.1, ⟨hk.1.2.1, hk.1.2.2⟩⟩⟩))), (rz HO115.out), ⟨_, rfl⟩, (kz BK101.out), (kz BK119.out), GW119.out, GE119.out, NB0_119.out, NB119_0.out, NB101_119.out, NB119_101.out, (by repeat (first | (with_reducible first | exact HI0.out | apply IsS82.alloc | apply IsS82.drewN | apply IsS82.drew | apply IsS82.set_1 | apply IsS82.set_2 | refine IsS82.far ?_ NB0_101.out _ | refine IsS82.far ?_ NB0_119.out _) | exact HI0.out)), (by repeat (first | (with_reducible first | exact HK.out | apply ac_.set_ | apply ah_ | apply al_ | apply ai_ | refine aC_ ?_ GW101.out _ | refine aC_ ?_ GW119.out _) | exact HK.out)), (by repeat (first | (with_reducible first | exact HB.out | apply bA_ | apply bN_ | apply bD_ | refine af_ ?_ (IsS82.ge HI0.out) | refine af_ ?_ GE101.out | refine af_ ?_ GE119.out) | exact HB.out))⟩)
            ·skip
             rintro ⟨v114, adz_v114⟩ w23 ⟨h0_, h1_, h2_, h3_, h4_, h5_, h6_, h7_⟩
             have n0_ : Aside0 (Kd.V (Kd.int .i64) 2 w23 w.heap.size (fun k_ => some k_ ≠ (.slice (some ad108) t105.length co18 : Value).ownBlock ∧ some k_ ≠ (v114 : Value).ownBlock ∧ k_ ≠ g ∧ k_ ≠ gb101) (.slice (some ad109) (rd_L2 t105 t102).length c108_0) (rd_L2 t105 t102)) := ⟨h0_⟩
             have n1_ : Aside0 (Kd.N (Kd.slice 2 (Kd.int .i64)) 39 w23 w.heap.size (fun k_ => some k_ ≠ (v114 : Value).ownBlock ∧ k_ ≠ g ∧ k_ ≠ gb101) (.slice (some ad108) t105.length co18) t105) := ⟨h1_⟩
             have n2_ : Aside0 (Kd.R Kd.string 9 w23 w.heap.size (fun _ => True) v114 t113) := ⟨h2_⟩
             have n3_ : Aside0 (∃ c_, (v114 : Value) = .slice (some adz_v114) t113.length c_) := ⟨h3_⟩
             have n4_ : Aside0 (w23.heap[gb101]? = some (.cells #[.string (⟨#[]⟩ : ByteArray), .int .i64 0, .int .i64 0] 57 (0, 0))) := ⟨h4_⟩
             have n5_ : Aside0 (IsS82 w0 w23 g s0_0 t111 t112) := ⟨h5_⟩
             have n6_ : Aside0 (ac_ w w23 g none) := ⟨h6_⟩
             have n7_ : Aside0 (Below w0.heap.size w0 w23) := ⟨h7_⟩
             clear HO107
             clear HL108_0
             clear BK101
             clear HI0
             clear HK
             clear HB
             clear h0_ h1_ h2_ h3_ h4_ h5_ h6_ h7_
             have HL108_0 := n0_
             have HO107 := n1_
             have HO115 := n2_
             have HA_HO115 := n3_
             have BK101 := n4_
             have HI0 := n5_
             have HK := n6_
             have HB := n7_
             clear n0_ n1_ n2_ n3_ n4_ n5_ n6_ n7_
             have hHeld := trivial
             obtain ⟨co24, eo24⟩ := HA_HO115.out
             clear HA_HO115
             subst eo24
             refine norm_ (a' := ?_) ?_ ?_
             rotate_left
             ·simp only [bK_, Act.put, lsa_, ls0_, ls1_]
              rfl
             refine three_ (i := 3) (j := 5) (k := 8) (Ni := some 22) (Nj := some 24) (Nk := some 5) #[t_,t_,t_,t_,t_,f_,f_,f_,f_,f_] #[t_,t_,t_,f_,t_,t_,f_,f_,f_,f_] #[t_,t_,t_,f_,t_,f_,f_,f_,t_,f_] rfl rfl rfl rfl rfl rfl (three_of HT_.out (by kernel_rfl)) (by decide) (by decide) (by decide) (fun K hK => ?_) (fun K hK => ?_) (fun K hK => ?_)
             ·skip
              (have p116 : 0 ≤ (t102 : Int) := of_decide_eq_true (by assumption); have q116 : t102 < (t113.length : Int) := of_decide_eq_true (by assumption); obtain ⟨ad116, e116, hx116_0⟩ := Kd.cW_ (Kd.aj_ HO115.out).2.2 t102 p116 q116; obtain rfl : adz_v114 = ad116 := (by injection e116))
              refine value_ (w1 := ?_) (v := ?_) (by rfl) rfl ?_ ?_
              rotate_left 2
              ·go_simp
               constructor
               ·rfl
               ·rfl
              clear hx116_0
              refine hK.out _ _ trivial (fun hHeld => ?_)
              clear hK K
              refine norm_ (a' := ?_) ?_ ?_
              rotate_left
              ·show Act.put _ (some 22) _ = _
               simp only [Act.put, lsa_, ls0_, ls1_, i64_w, i32_w]
               rfl
              exact norm_ (by first | (simp only [bK_, Act.put, lsa_, ls0_, ls1_]; done) | (simp only [bK_, Act.put, lsa_, ls0_, ls1_]; rfl)) (hJ0_3 (.slice (some adz_v114) t113.length co24, adz_v114) _ ⟨(vz HL108_0.out), (nz HO107.out), (rz HO115.out), ⟨_, rfl⟩, (kz BK101.out), (by repeat (first | (with_reducible first | exact HI0.out | apply IsS82.alloc | apply IsS82.drewN | apply IsS82.drew | apply IsS82.set_1 | apply IsS82.set_2 | refine IsS82.far ?_ NB0_101.out _) | exact HI0.out)), (by repeat (first | (with_reducible first | exact HK.out | apply ac_.set_ | apply ah_ | apply al_ | apply ai_ | refine aC_ ?_ GW101.out _) | exact HK.out)), (by repeat (first | (with_reducible first | exact HB.out | apply bA_ | apply bN_ | apply bD_ | refine af_ ?_ (IsS82.ge HI0.out) | refine af_ ?_ GE101.out) | exact HB.out))⟩)
             ·skip
              (first | refine goes_ Tryd.func71 (by kernel_rfl) rfl #[.int .i64 0, .int .i64 (wrap64 ((wrap64 ((rd (rd_L2 t105 t102) 0) + t110)) - 10))] (by rfl) rfl rfl (by first | rfl | (simp only [lma_, lmc_, lmn_]; first | done | rfl)) ?_ | refine RPW.cX_ Tryd.func71 (by kernel_rfl) rfl #[.int .i64 0, .int .i64 (wrap64 ((wrap64 ((rd (rd_L2 t105 t102) 0) + t110)) - 10))] (by rfl) rfl rfl rfl (by first | rfl | (simp only [lma_, lmc_, lmn_]; first | done | rfl)) ?_ | refine RPW.cY_ Tryd.func71 (by kernel_rfl) rfl #[.int .i64 0, .int .i64 (wrap64 ((wrap64 ((rd (rd_L2 t105 t102) 0) + t110)) - 10))] (by rfl) rfl rfl rfl (by first | rfl | (simp only [lma_, lmc_, lmn_]; first | done | rfl)) ?_)
              with_reducible refine (cS_.calls 0 (wrap64 ((wrap64 ((rd (rd_L2 t105 t102) 0) + t110)) - 10)) t117 _ A10.out).mono ?_
              rintro e w' ⟨rfl, ⟨nd, rfl⟩⟩
              refine ⟨_, rfl, ?_⟩
              refine hK.out _ _ trivial (fun hHeld => ?_)
              clear hK K
              refine norm_ (a' := ?_) ?_ ?_
              rotate_left
              ·show Act.put _ (some 24) _ = _
               simp only [Act.put, lsa_, ls0_, ls1_, i64_w, i32_w]
               rfl
              exact norm_ (by first | (simp only [bK_, Act.put, lsa_, ls0_, ls1_]; done) | (simp only [bK_, Act.put, lsa_, ls0_, ls1_]; rfl)) (hJ0_5 (.slice (some adz_v114) t113.length co24, adz_v114) _ ⟨(vz HL108_0.out), (nz HO107.out), (rz HO115.out), ⟨_, rfl⟩, (kz BK101.out), (by repeat (first | (with_reducible first | exact HI0.out | apply IsS82.alloc | apply IsS82.drewN | apply IsS82.drew | apply IsS82.set_1 | apply IsS82.set_2 | refine IsS82.far ?_ NB0_101.out _) | exact HI0.out)), (by repeat (first | (with_reducible first | exact HK.out | apply ac_.set_ | apply ah_ | apply al_ | apply ai_ | refine aC_ ?_ GW101.out _) | exact HK.out)), (by repeat (first | (with_reducible first | exact HB.out | apply bA_ | apply bN_ | apply bD_ | refine af_ ?_ (IsS82.ge HI0.out) | refine af_ ?_ GE101.out) | exact HB.out))⟩)
             ·skip
              refine box_step ?hg (N := 5) ?hd (cs := #[.string (⟨#[]⟩ : ByteArray), .int .i64 0, .int .i64 0]) (t := 57) ?hr ?_; (case hd => rfl); (case hg => rfl); (case hr => (go_simp; try rfl))
              intro gb119 hg w25 hbox hb
              have n0_ := Aside0.mk (Kd.N_below (Kd.N_elderB (nz HO107.out) gb119 (Nat.le_of_eq hg.symm)) hb)
              have n1_ := Aside0.mk (Kd.V_below (Kd.V_elderB (vz HL108_0.out) gb119 (Nat.le_of_eq hg.symm)) hb)
              have n2_ := Aside0.mk (Kd.aM_ (rz HO115.out) hb)
              have n3_ := Aside0.mk (IsS82.below (by repeat (first | (with_reducible first | exact HI0.out | apply IsS82.alloc | apply IsS82.drewN | apply IsS82.drew | apply IsS82.set_1 | apply IsS82.set_2 | refine IsS82.far ?_ NB0_101.out _) | exact HI0.out)) hb)
              have n4_ := Aside0.mk (aS_ (kz BK101.out) hb)
              have n5_ := Aside0.mk (ac_.trans (by repeat (first | (with_reducible first | exact HK.out | apply ac_.set_ | apply ah_ | apply al_ | apply ai_ | refine aC_ ?_ GW101.out _) | exact HK.out)) (ac_.of_below hb g none) (.inl rfl))
              have n6_ := Aside0.mk (ab_ (by repeat (first | (with_reducible first | exact HB.out | apply bA_ | apply bN_ | apply bD_ | refine af_ ?_ (IsS82.ge HI0.out) | refine af_ ?_ GE101.out) | exact HB.out)) hb)
              have n7_ := Aside0.mk (hbox)
              have n8_ := Aside0.mk ((by rw [hg]; exact (br_ (w := w) (g := g) (row := none) (by repeat (first | (with_reducible first | exact HK.out | apply ac_.set_ | apply ah_ | apply al_ | apply ai_ | refine aC_ ?_ GW101.out _) | exact HK.out))) : w.heap.size ≤ gb119))
              have n9_ := Aside0.mk ((Nat.le_trans HW0.out (by rw [hg]; exact (br_ (w := w) (g := g) (row := none) (by repeat (first | (with_reducible first | exact HK.out | apply ac_.set_ | apply ah_ | apply al_ | apply ai_ | refine aC_ ?_ GW101.out _) | exact HK.out))) : w.heap.size ≤ gb119) : w0.heap.size ≤ gb119))
              have n10_ := Aside0.mk ((by rw [hg]; exact Nat.ne_of_lt (de_ (kz BK101.out)) : gb101 ≠ gb119))
              have n11_ := Aside0.mk ((by rw [hg]; exact Nat.ne_of_gt (de_ (kz BK101.out)) : gb119 ≠ gb101))
              have n12_ := Aside0.mk ((by rw [hg]; exact Nat.ne_of_lt (IsS82.lt (show IsS82 w0 _ g s0_0 t111 t112 from by repeat (first | (with_reducible first | exact HI0.out | apply IsS82.alloc | apply IsS82.drewN | apply IsS82.drew | apply IsS82.set_1 | apply IsS82.set_2 | refine IsS82.far ?_ NB0_101.out _) | exact HI0.out))) : g ≠ gb119))
              have n13_ := Aside0.mk ((by rw [hg]; exact Nat.ne_of_gt (IsS82.lt (show IsS82 w0 _ g s0_0 t111 t112 from by repeat (first | (with_reducible first | exact HI0.out | apply IsS82.alloc | apply IsS82.drewN | apply IsS82.drew | apply IsS82.set_1 | apply IsS82.set_2 | refine IsS82.far ?_ NB0_101.out _) | exact HI0.out))) : gb119 ≠ g))
              clear HO107
              clear HL108_0
              clear HO115
              clear HI0
              clear BK101
              clear HK
              clear HB
              have HO107 := n0_
              have HL108_0 := n1_
              have HO115 := n2_
              have HI0 := n3_
              have BK101 := n4_
              have HK := n5_
              have HB := n6_
              have BK119 := n7_
              have GW119 := n8_
              have GE119 := n9_
              have NB101_119 := n10_
              have NB119_101 := n11_
              have NB0_119 := n12_
              have NB119_0 := n13_
              clear n0_ n1_ n2_ n3_ n4_ n5_ n6_ n7_ n8_ n9_ n10_ n11_ n12_ n13_
              clear hb hbox hg
              refine hK.out _ _ trivial (fun hHeld => ?_)
              clear hK K
              refine norm_ (a' := ?_) ?_ ?_
              rotate_left
              ·show Act.put _ (some 5) _ = _
               simp only [Act.put, lsa_, ls0_, ls1_, i64_w, i32_w]
               rfl
              exact norm_ (by first | (simp only [bK_, Act.put, lsa_, ls0_, ls1_]; done) | (simp only [bK_, Act.put, lsa_, ls0_, ls1_]; rfl)) (hJ0_8 (.slice (some adz_v114) t113.length co24, adz_v114, gb119) _ ⟨(vz (Kd.cG_ HL108_0.out (fun _ hk => ⟨hk.1.1, ⟨hk.1.2.1, ⟨hk.1.2.2.1, ⟨hk.1.2.2.2, hk.2⟩⟩⟩⟩))), (nz (Kd.cN_ HO107.out (fun _ hk => ⟨hk.1.1, ⟨hk.1.2.1, ⟨hk.1.2.2, hk.2⟩⟩⟩))), (rz HO115.out), ⟨_, rfl⟩, (kz BK101.out), (kz BK119.out), GW119.out, GE119.out, NB0_119.out, NB119_0.out, NB101_119.out, NB119_101.out, (by repeat (first | (with_reducible first | exact HI0.out | apply IsS82.alloc | apply IsS82.drewN | apply IsS82.drew | apply IsS82.set_1 | apply IsS82.set_2 | refine IsS82.far ?_ NB0_101.out _ | refine IsS82.far ?_ NB0_119.out _) | exact HI0.out)), (by repeat (first | (with_reducible first | exact HK.out | apply ac_.set_ | apply ah_ | apply al_ | apply ai_ | refine aC_ ?_ GW101.out _ | refine aC_ ?_ GW119.out _) | exact HK.out)), (by repeat (first | (with_reducible first | exact HB.out | apply bA_ | apply bN_ | apply bD_ | refine af_ ?_ (IsS82.ge HI0.out) | refine af_ ?_ GE101.out | refine af_ ?_ GE119.out) | exact HB.out))⟩)
           ·skip
            rintro ⟨v114, adz_v114, gb119⟩ w24 ⟨h0_, h1_, h2_, h3_, h4_, h5_, h6_, h7_, h8_, h9_, h10_, h11_, h12_, h13_, h14_⟩
            have n0_ : Aside0 (Kd.V (Kd.int .i64) 2 w24 w.heap.size (fun k_ => some k_ ≠ (.slice (some ad108) t105.length co18 : Value).ownBlock ∧ some k_ ≠ (v114 : Value).ownBlock ∧ k_ ≠ g ∧ k_ ≠ gb101 ∧ k_ ≠ gb119) (.slice (some ad109) (rd_L2 t105 t102).length c108_0) (rd_L2 t105 t102)) := ⟨h0_⟩
            have n1_ : Aside0 (Kd.N (Kd.slice 2 (Kd.int .i64)) 39 w24 w.heap.size (fun k_ => some k_ ≠ (v114 : Value).ownBlock ∧ k_ ≠ g ∧ k_ ≠ gb101 ∧ k_ ≠ gb119) (.slice (some ad108) t105.length co18) t105) := ⟨h1_⟩
            have n2_ : Aside0 (Kd.R Kd.string 9 w24 w.heap.size (fun _ => True) v114 t113) := ⟨h2_⟩
            have n3_ : Aside0 (∃ c_, (v114 : Value) = .slice (some adz_v114) t113.length c_) := ⟨h3_⟩
            have n4_ : Aside0 (w24.heap[gb101]? = some (.cells #[.string (⟨#[]⟩ : ByteArray), .int .i64 0, .int .i64 0] 57 (0, 0))) := ⟨h4_⟩
            have n5_ : Aside0 (w24.heap[gb119]? = some (.cells #[.string (⟨#[]⟩ : ByteArray), .int .i64 0, .int .i64 0] 57 (0, 0))) := ⟨h5_⟩
            have n6_ : Aside0 (w.heap.size ≤ gb119) := ⟨h6_⟩
            have n7_ : Aside0 (w0.heap.size ≤ gb119) := ⟨h7_⟩
            have n8_ : Aside0 (g ≠ gb119) := ⟨h8_⟩
            have n9_ : Aside0 (gb119 ≠ g) := ⟨h9_⟩
            have n10_ : Aside0 (gb101 ≠ gb119) := ⟨h10_⟩
            have n11_ : Aside0 (gb119 ≠ gb101) := ⟨h11_⟩
            have n12_ : Aside0 (IsS82 w0 w24 g s0_0 t111 t112) := ⟨h12_⟩
            have n13_ : Aside0 (ac_ w w24 g none) := ⟨h13_⟩
            have n14_ : Aside0 (Below w0.heap.size w0 w24) := ⟨h14_⟩
            clear HO107
            clear HL108_0
            clear BK101
            clear HI0
            clear HK
            clear HB
            clear h0_ h1_ h2_ h3_ h4_ h5_ h6_ h7_ h8_ h9_ h10_ h11_ h12_ h13_ h14_
            have HL108_0 := n0_
            have HO107 := n1_
            have HO115 := n2_
            have HA_HO115 := n3_
            have BK101 := n4_
            have BK119 := n5_
            have GW119 := n6_
            have GE119 := n7_
            have NB0_119 := n8_
            have NB119_0 := n9_
            have NB101_119 := n10_
            have NB119_101 := n11_
            have HI0 := n12_
            have HK := n13_
            have HB := n14_
            clear n0_ n1_ n2_ n3_ n4_ n5_ n6_ n7_ n8_ n9_ n10_ n11_ n12_ n13_ n14_
            have hHeld := trivial
            obtain ⟨co25, eo25⟩ := HA_HO115.out
            clear HA_HO115
            subst eo25
            refine norm_ (a' := ?_) ?_ ?_
            rotate_left
            ·simp only [bK_, Act.put, lsa_, ls0_, ls1_]
             rfl
            refine two_ (i := 3) (j := 5) (Ni := some 22) (Nj := some 24) #[t_,t_,t_,t_,t_,f_,f_,f_,t_,f_] #[t_,t_,t_,f_,t_,t_,f_,f_,t_,f_] rfl rfl rfl rfl (two_of HT_.out (by kernel_rfl)) (by decide) (by decide) (fun K hK => ?_) (fun K hK => ?_)
            ·skip
             (have p116 : 0 ≤ (t102 : Int) := of_decide_eq_true (by assumption); have q116 : t102 < (t113.length : Int) := of_decide_eq_true (by assumption); obtain ⟨ad116, e116, hx116_0⟩ := Kd.cW_ (Kd.aj_ HO115.out).2.2 t102 p116 q116; obtain rfl : adz_v114 = ad116 := (by injection e116))
             refine value_ (w1 := ?_) (v := ?_) (by rfl) rfl ?_ ?_
             rotate_left 2
             ·go_simp
              constructor
              ·rfl
              ·rfl
             clear hx116_0
             refine hK.out _ _ trivial (fun hHeld => ?_)
             clear hK K
             refine norm_ (a' := ?_) ?_ ?_
             rotate_left
             ·show Act.put _ (some 22) _ = _
              simp only [Act.put, lsa_, ls0_, ls1_, i64_w, i32_w]
              rfl
             exact norm_ (by first | (simp only [bK_, Act.put, lsa_, ls0_, ls1_]; done) | (simp only [bK_, Act.put, lsa_, ls0_, ls1_]; rfl)) (hJ0_3_8 (.slice (some adz_v114) t113.length co25, adz_v114, gb119) _ ⟨(vz HL108_0.out), (nz HO107.out), (rz HO115.out), ⟨_, rfl⟩, (kz BK101.out), (kz BK119.out), GW119.out, GE119.out, NB0_119.out, NB119_0.out, NB101_119.out, NB119_101.out, (by repeat (first | (with_reducible first | exact HI0.out | apply IsS82.alloc | apply IsS82.drewN | apply IsS82.drew | apply IsS82.set_1 | apply IsS82.set_2 | refine IsS82.far ?_ NB0_101.out _ | refine IsS82.far ?_ NB0_119.out _) | exact HI0.out)), (by repeat (first | (with_reducible first | exact HK.out | apply ac_.set_ | apply ah_ | apply al_ | apply ai_ | refine aC_ ?_ GW101.out _ | refine aC_ ?_ GW119.out _) | exact HK.out)), (by repeat (first | (with_reducible first | exact HB.out | apply bA_ | apply bN_ | apply bD_ | refine af_ ?_ (IsS82.ge HI0.out) | refine af_ ?_ GE101.out | refine af_ ?_ GE119.out) | exact HB.out))⟩)
            ·skip
             (first | refine goes_ Tryd.func71 (by kernel_rfl) rfl #[.int .i64 0, .int .i64 (wrap64 ((wrap64 ((rd (rd_L2 t105 t102) 0) + t110)) - 10))] (by rfl) rfl rfl (by first | rfl | (simp only [lma_, lmc_, lmn_]; first | done | rfl)) ?_ | refine RPW.cX_ Tryd.func71 (by kernel_rfl) rfl #[.int .i64 0, .int .i64 (wrap64 ((wrap64 ((rd (rd_L2 t105 t102) 0) + t110)) - 10))] (by rfl) rfl rfl rfl (by first | rfl | (simp only [lma_, lmc_, lmn_]; first | done | rfl)) ?_ | refine RPW.cY_ Tryd.func71 (by kernel_rfl) rfl #[.int .i64 0, .int .i64 (wrap64 ((wrap64 ((rd (rd_L2 t105 t102) 0) + t110)) - 10))] (by rfl) rfl rfl rfl (by first | rfl | (simp only [lma_, lmc_, lmn_]; first | done | rfl)) ?_)
             with_reducible refine (cS_.calls 0 (wrap64 ((wrap64 ((rd (rd_L2 t105 t102) 0) + t110)) - 10)) t117 _ A10.out).mono ?_
             rintro e w' ⟨rfl, ⟨nd, rfl⟩⟩
             refine ⟨_, rfl, ?_⟩
             refine hK.out _ _ trivial (fun hHeld => ?_)
             clear hK K
             refine norm_ (a' := ?_) ?_ ?_
             rotate_left
             ·show Act.put _ (some 24) _ = _
              simp only [Act.put, lsa_, ls0_, ls1_, i64_w, i32_w]
              rfl
             exact norm_ (by first | (simp only [bK_, Act.put, lsa_, ls0_, ls1_]; done) | (simp only [bK_, Act.put, lsa_, ls0_, ls1_]; rfl)) (hJ0_5_8 (.slice (some adz_v114) t113.length co25, adz_v114, gb119) _ ⟨(vz HL108_0.out), (nz HO107.out), (rz HO115.out), ⟨_, rfl⟩, (kz BK101.out), (kz BK119.out), GW119.out, GE119.out, NB0_119.out, NB119_0.out, NB101_119.out, NB119_101.out, (by repeat (first | (with_reducible first | exact HI0.out | apply IsS82.alloc | apply IsS82.drewN | apply IsS82.drew | apply IsS82.set_1 | apply IsS82.set_2 | refine IsS82.far ?_ NB0_101.out _ | refine IsS82.far ?_ NB0_119.out _) | exact HI0.out)), (by repeat (first | (with_reducible first | exact HK.out | apply ac_.set_ | apply ah_ | apply al_ | apply ai_ | refine aC_ ?_ GW101.out _ | refine aC_ ?_ GW119.out _) | exact HK.out)), (by repeat (first | (with_reducible first | exact HB.out | apply bA_ | apply bN_ | apply bD_ | refine af_ ?_ (IsS82.ge HI0.out) | refine af_ ?_ GE101.out | refine af_ ?_ GE119.out) | exact HB.out))⟩)
          ·skip
           rintro ⟨v114, adz_v114⟩ w23 ⟨h0_, h1_, h2_, h3_, h4_, h5_, h6_, h7_⟩
           have n0_ : Aside0 (Kd.V (Kd.int .i64) 2 w23 w.heap.size (fun k_ => some k_ ≠ (.slice (some ad108) t105.length co18 : Value).ownBlock ∧ some k_ ≠ (v114 : Value).ownBlock ∧ k_ ≠ g ∧ k_ ≠ gb101) (.slice (some ad109) (rd_L2 t105 t102).length c108_0) (rd_L2 t105 t102)) := ⟨h0_⟩
           have n1_ : Aside0 (Kd.N (Kd.slice 2 (Kd.int .i64)) 39 w23 w.heap.size (fun k_ => some k_ ≠ (v114 : Value).ownBlock ∧ k_ ≠ g ∧ k_ ≠ gb101) (.slice (some ad108) t105.length co18) t105) := ⟨h1_⟩
           have n2_ : Aside0 (Kd.R Kd.string 9 w23 w.heap.size (fun _ => True) v114 t113) := ⟨h2_⟩
           have n3_ : Aside0 (∃ c_, (v114 : Value) = .slice (some adz_v114) t113.length c_) := ⟨h3_⟩
           have n4_ : Aside0 (w23.heap[gb101]? = some (.cells #[.string (⟨#[]⟩ : ByteArray), .int .i64 0, .int .i64 0] 57 (0, 0))) := ⟨h4_⟩
           have n5_ : Aside0 (IsS82 w0 w23 g s0_0 t111 t112) := ⟨h5_⟩
           have n6_ : Aside0 (ac_ w w23 g none) := ⟨h6_⟩
           have n7_ : Aside0 (Below w0.heap.size w0 w23) := ⟨h7_⟩
           clear HO107
           clear HL108_0
           clear BK101
           clear HI0
           clear HK
           clear HB
           clear h0_ h1_ h2_ h3_ h4_ h5_ h6_ h7_
           have HL108_0 := n0_
           have HO107 := n1_
           have HO115 := n2_
           have HA_HO115 := n3_
           have BK101 := n4_
           have HI0 := n5_
           have HK := n6_
           have HB := n7_
           clear n0_ n1_ n2_ n3_ n4_ n5_ n6_ n7_
           have hHeld := trivial
           obtain ⟨co24, eo24⟩ := HA_HO115.out
           clear HA_HO115
           subst eo24
           refine norm_ (a' := ?_) ?_ ?_
           rotate_left
           ·simp only [bK_, Act.put, lsa_, ls0_, ls1_]
            rfl
           refine three_ (i := 3) (j := 6) (k := 8) (Ni := some 22) (Nj := some 25) (Nk := some 5) #[t_,t_,t_,t_,t_,t_,f_,f_,f_,f_] #[t_,t_,t_,f_,t_,t_,t_,f_,f_,f_] #[t_,t_,t_,f_,t_,t_,f_,f_,t_,f_] rfl rfl rfl rfl rfl rfl (three_of HT_.out (by kernel_rfl)) (by decide) (by decide) (by decide) (fun K hK => ?_) (fun K hK => ?_) (fun K hK => ?_)
           ·skip
            (have p116 : 0 ≤ (t102 : Int) := of_decide_eq_true (by assumption); have q116 : t102 < (t113.length : Int) := of_decide_eq_true (by assumption); obtain ⟨ad116, e116, hx116_0⟩ := Kd.cW_ (Kd.aj_ HO115.out).2.2 t102 p116 q116; obtain rfl : adz_v114 = ad116 := (by injection e116))
            refine value_ (w1 := ?_) (v := ?_) (by rfl) rfl ?_ ?_
            rotate_left 2
            ·go_simp
             constructor
             ·rfl
             ·rfl
            clear hx116_0
            refine hK.out _ _ trivial (fun hHeld => ?_)
            clear hK K
            refine norm_ (a' := ?_) ?_ ?_
            rotate_left
            ·show Act.put _ (some 22) _ = _
             simp only [Act.put, lsa_, ls0_, ls1_, i64_w, i32_w]
             rfl
            exact norm_ (by first | (simp only [bK_, Act.put, lsa_, ls0_, ls1_]; done) | (simp only [bK_, Act.put, lsa_, ls0_, ls1_]; rfl)) (hJ0_3_5 (.slice (some adz_v114) t113.length co24, adz_v114) _ ⟨(vz HL108_0.out), (nz HO107.out), (rz HO115.out), ⟨_, rfl⟩, (kz BK101.out), (by repeat (first | (with_reducible first | exact HI0.out | apply IsS82.alloc | apply IsS82.drewN | apply IsS82.drew | apply IsS82.set_1 | apply IsS82.set_2 | refine IsS82.far ?_ NB0_101.out _) | exact HI0.out)), (by repeat (first | (with_reducible first | exact HK.out | apply ac_.set_ | apply ah_ | apply al_ | apply ai_ | refine aC_ ?_ GW101.out _) | exact HK.out)), (by repeat (first | (with_reducible first | exact HB.out | apply bA_ | apply bN_ | apply bD_ | refine af_ ?_ (IsS82.ge HI0.out) | refine af_ ?_ GE101.out) | exact HB.out))⟩)
           ·skip
            (first | refine goes_ Tryd.func70 (by kernel_rfl) rfl #[.int .i64 100, .int .i64 t117] (by rfl) rfl rfl (by first | rfl | (simp only [lma_, lmc_, lmn_]; first | done | rfl)) ?_ | refine RPW.cX_ Tryd.func70 (by kernel_rfl) rfl #[.int .i64 100, .int .i64 t117] (by rfl) rfl rfl rfl (by first | rfl | (simp only [lma_, lmc_, lmn_]; first | done | rfl)) ?_ | refine RPW.cY_ Tryd.func70 (by kernel_rfl) rfl #[.int .i64 100, .int .i64 t117] (by rfl) rfl rfl rfl (by first | rfl | (simp only [lma_, lmc_, lmn_]; first | done | rfl)) ?_)
            with_reducible refine (cP_.calls 100 t117 t118 _ A11.out).mono ?_
            rintro e w' ⟨rfl, ⟨nd, rfl⟩⟩
            refine ⟨_, rfl, ?_⟩
            refine hK.out _ _ trivial (fun hHeld => ?_)
            clear hK K
            refine norm_ (a' := ?_) ?_ ?_
            rotate_left
            ·show Act.put _ (some 25) _ = _
             simp only [Act.put, lsa_, ls0_, ls1_, i64_w, i32_w]
             rfl
            exact norm_ (by first | (simp only [bK_, Act.put, lsa_, ls0_, ls1_]; done) | (simp only [bK_, Act.put, lsa_, ls0_, ls1_]; rfl)) (hJ0_5_6 (.slice (some adz_v114) t113.length co24, adz_v114) _ ⟨(vz HL108_0.out), (nz HO107.out), (rz HO115.out), ⟨_, rfl⟩, (kz BK101.out), (by repeat (first | (with_reducible first | exact HI0.out | apply IsS82.alloc | apply IsS82.drewN | apply IsS82.drew | apply IsS82.set_1 | apply IsS82.set_2 | refine IsS82.far ?_ NB0_101.out _) | exact HI0.out)), (by repeat (first | (with_reducible first | exact HK.out | apply ac_.set_ | apply ah_ | apply al_ | apply ai_ | refine aC_ ?_ GW101.out _) | exact HK.out)), (by repeat (first | (with_reducible first | exact HB.out | apply bA_ | apply bN_ | apply bD_ | refine af_ ?_ (IsS82.ge HI0.out) | refine af_ ?_ GE101.out) | exact HB.out))⟩)
           ·skip
            refine box_step ?hg (N := 5) ?hd (cs := #[.string (⟨#[]⟩ : ByteArray), .int .i64 0, .int .i64 0]) (t := 57) ?hr ?_; (case hd => rfl); (case hg => rfl); (case hr => (go_simp; try rfl))
            intro gb119 hg w25 hbox hb
            have n0_ := Aside0.mk (Kd.N_below (Kd.N_elderB (nz HO107.out) gb119 (Nat.le_of_eq hg.symm)) hb)
            have n1_ := Aside0.mk (Kd.V_below (Kd.V_elderB (vz HL108_0.out) gb119 (Nat.le_of_eq hg.symm)) hb)
            have n2_ := Aside0.mk (Kd.aM_ (rz HO115.out) hb)
            have n3_ := Aside0.mk (IsS82.below (by repeat (first | (with_reducible first | exact HI0.out | apply IsS82.alloc | apply IsS82.drewN | apply IsS82.drew | apply IsS82.set_1 | apply IsS82.set_2 | refine IsS82.far ?_ NB0_101.out _) | exact HI0.out)) hb)
            have n4_ := Aside0.mk (aS_ (kz BK101.out) hb)
            have n5_ := Aside0.mk (ac_.trans (by repeat (first | (with_reducible first | exact HK.out | apply ac_.set_ | apply ah_ | apply al_ | apply ai_ | refine aC_ ?_ GW101.out _) | exact HK.out)) (ac_.of_below hb g none) (.inl rfl))
            have n6_ := Aside0.mk (ab_ (by repeat (first | (with_reducible first | exact HB.out | apply bA_ | apply bN_ | apply bD_ | refine af_ ?_ (IsS82.ge HI0.out) | refine af_ ?_ GE101.out) | exact HB.out)) hb)
            have n7_ := Aside0.mk (hbox)
            have n8_ := Aside0.mk ((by rw [hg]; exact (br_ (w := w) (g := g) (row := none) (by repeat (first | (with_reducible first | exact HK.out | apply ac_.set_ | apply ah_ | apply al_ | apply ai_ | refine aC_ ?_ GW101.out _) | exact HK.out))) : w.heap.size ≤ gb119))
            have n9_ := Aside0.mk ((Nat.le_trans HW0.out (by rw [hg]; exact (br_ (w := w) (g := g) (row := none) (by repeat (first | (with_reducible first | exact HK.out | apply ac_.set_ | apply ah_ | apply al_ | apply ai_ | refine aC_ ?_ GW101.out _) | exact HK.out))) : w.heap.size ≤ gb119) : w0.heap.size ≤ gb119))
            have n10_ := Aside0.mk ((by rw [hg]; exact Nat.ne_of_lt (de_ (kz BK101.out)) : gb101 ≠ gb119))
            have n11_ := Aside0.mk ((by rw [hg]; exact Nat.ne_of_gt (de_ (kz BK101.out)) : gb119 ≠ gb101))
            have n12_ := Aside0.mk ((by rw [hg]; exact Nat.ne_of_lt (IsS82.lt (show IsS82 w0 _ g s0_0 t111 t112 from by repeat (first | (with_reducible first | exact HI0.out | apply IsS82.alloc | apply IsS82.drewN | apply IsS82.drew | apply IsS82.set_1 | apply IsS82.set_2 | refine IsS82.far ?_ NB0_101.out _) | exact HI0.out))) : g ≠ gb119))
            have n13_ := Aside0.mk ((by rw [hg]; exact Nat.ne_of_gt (IsS82.lt (show IsS82 w0 _ g s0_0 t111 t112 from by repeat (first | (with_reducible first | exact HI0.out | apply IsS82.alloc | apply IsS82.drewN | apply IsS82.drew | apply IsS82.set_1 | apply IsS82.set_2 | refine IsS82.far ?_ NB0_101.out _) | exact HI0.out))) : gb119 ≠ g))
            clear HO107
            clear HL108_0
            clear HO115
            clear HI0
            clear BK101
            clear HK
            clear HB
            have HO107 := n0_
            have HL108_0 := n1_
            have HO115 := n2_
            have HI0 := n3_
            have BK101 := n4_
            have HK := n5_
            have HB := n6_
            have BK119 := n7_
            have GW119 := n8_
            have GE119 := n9_
            have NB101_119 := n10_
            have NB119_101 := n11_
            have NB0_119 := n12_
            have NB119_0 := n13_
            clear n0_ n1_ n2_ n3_ n4_ n5_ n6_ n7_ n8_ n9_ n10_ n11_ n12_ n13_
            clear hb hbox hg
            refine hK.out _ _ trivial (fun hHeld => ?_)
            clear hK K
            refine norm_ (a' := ?_) ?_ ?_
            rotate_left
            ·show Act.put _ (some 5) _ = _
             simp only [Act.put, lsa_, ls0_, ls1_, i64_w, i32_w]
             rfl
            exact norm_ (by first | (simp only [bK_, Act.put, lsa_, ls0_, ls1_]; done) | (simp only [bK_, Act.put, lsa_, ls0_, ls1_]; rfl)) (hJ0_5_8 (.slice (some adz_v114) t113.length co24, adz_v114, gb119) _ ⟨(vz (Kd.cG_ HL108_0.out (fun _ hk => ⟨hk.1.1, ⟨hk.1.2.1, ⟨hk.1.2.2.1, ⟨hk.1.2.2.2, hk.2⟩⟩⟩⟩))), (nz (Kd.cN_ HO107.out (fun _ hk => ⟨hk.1.1, ⟨hk.1.2.1, ⟨hk.1.2.2, hk.2⟩⟩⟩))), (rz HO115.out), ⟨_, rfl⟩, (kz BK101.out), (kz BK119.out), GW119.out, GE119.out, NB0_119.out, NB119_0.out, NB101_119.out, NB119_101.out, (by repeat (first | (with_reducible first | exact HI0.out | apply IsS82.alloc | apply IsS82.drewN | apply IsS82.drew | apply IsS82.set_1 | apply IsS82.set_2 | refine IsS82.far ?_ NB0_101.out _ | refine IsS82.far ?_ NB0_119.out _) | exact HI0.out)), (by repeat (first | (with_reducible first | exact HK.out | apply ac_.set_ | apply ah_ | apply al_ | apply ai_ | refine aC_ ?_ GW101.out _ | refine aC_ ?_ GW119.out _) | exact HK.out)), (by repeat (first | (with_reducible first | exact HB.out | apply bA_ | apply bN_ | apply bD_ | refine af_ ?_ (IsS82.ge HI0.out) | refine af_ ?_ GE101.out | refine af_ ?_ GE119.out) | exact HB.out))⟩)
         ·skip
          rintro ⟨v114, adz_v114⟩ w23 ⟨h0_, h1_, h2_, h3_, h4_, h5_, h6_, h7_⟩
          have n0_ : Aside0 (Kd.V (Kd.int .i64) 2 w23 w.heap.size (fun k_ => some k_ ≠ (.slice (some ad108) t105.length co18 : Value).ownBlock ∧ some k_ ≠ (v114 : Value).ownBlock ∧ k_ ≠ g ∧ k_ ≠ gb101) (.slice (some ad109) (rd_L2 t105 t102).length c108_0) (rd_L2 t105 t102)) := ⟨h0_⟩
          have n1_ : Aside0 (Kd.N (Kd.slice 2 (Kd.int .i64)) 39 w23 w.heap.size (fun k_ => some k_ ≠ (v114 : Value).ownBlock ∧ k_ ≠ g ∧ k_ ≠ gb101) (.slice (some ad108) t105.length co18) t105) := ⟨h1_⟩
          have n2_ : Aside0 (Kd.R Kd.string 9 w23 w.heap.size (fun _ => True) v114 t113) := ⟨h2_⟩
          have n3_ : Aside0 (∃ c_, (v114 : Value) = .slice (some adz_v114) t113.length c_) := ⟨h3_⟩
          have n4_ : Aside0 (w23.heap[gb101]? = some (.cells #[.string (⟨#[]⟩ : ByteArray), .int .i64 0, .int .i64 0] 57 (0, 0))) := ⟨h4_⟩
          have n5_ : Aside0 (IsS82 w0 w23 g s0_0 t111 t112) := ⟨h5_⟩
          have n6_ : Aside0 (ac_ w w23 g none) := ⟨h6_⟩
          have n7_ : Aside0 (Below w0.heap.size w0 w23) := ⟨h7_⟩
          clear HO107
          clear HL108_0
          clear BK101
          clear HI0
          clear HK
          clear HB
          clear h0_ h1_ h2_ h3_ h4_ h5_ h6_ h7_
          have HL108_0 := n0_
          have HO107 := n1_
          have HO115 := n2_
          have HA_HO115 := n3_
          have BK101 := n4_
          have HI0 := n5_
          have HK := n6_
          have HB := n7_
          clear n0_ n1_ n2_ n3_ n4_ n5_ n6_ n7_
          have hHeld := trivial
          obtain ⟨co24, eo24⟩ := HA_HO115.out
          clear HA_HO115
          subst eo24
          refine norm_ (a' := ?_) ?_ ?_
          rotate_left
          ·simp only [bK_, Act.put, lsa_, ls0_, ls1_]
           rfl
          refine two_ (i := 5) (j := 8) (Ni := some 24) (Nj := some 5) #[t_,t_,t_,t_,t_,t_,f_,f_,f_,f_] #[t_,t_,t_,t_,t_,f_,f_,f_,t_,f_] rfl rfl rfl rfl (two_of HT_.out (by kernel_rfl)) (by decide) (by decide) (fun K hK => ?_) (fun K hK => ?_)
          ·skip
           (first | refine goes_ Tryd.func71 (by kernel_rfl) rfl #[.int .i64 0, .int .i64 (wrap64 ((wrap64 ((rd (rd_L2 t105 t102) 0) + t110)) - 10))] (by rfl) rfl rfl (by first | rfl | (simp only [lma_, lmc_, lmn_]; first | done | rfl)) ?_ | refine RPW.cX_ Tryd.func71 (by kernel_rfl) rfl #[.int .i64 0, .int .i64 (wrap64 ((wrap64 ((rd (rd_L2 t105 t102) 0) + t110)) - 10))] (by rfl) rfl rfl rfl (by first | rfl | (simp only [lma_, lmc_, lmn_]; first | done | rfl)) ?_ | refine RPW.cY_ Tryd.func71 (by kernel_rfl) rfl #[.int .i64 0, .int .i64 (wrap64 ((wrap64 ((rd (rd_L2 t105 t102) 0) + t110)) - 10))] (by rfl) rfl rfl rfl (by first | rfl | (simp only [lma_, lmc_, lmn_]; first | done | rfl)) ?_)
           with_reducible refine (cS_.calls 0 (wrap64 ((wrap64 ((rd (rd_L2 t105 t102) 0) + t110)) - 10)) t117 _ A10.out).mono ?_
           rintro e w' ⟨rfl, ⟨nd, rfl⟩⟩
           refine ⟨_, rfl, ?_⟩
           refine hK.out _ _ trivial (fun hHeld => ?_)
           clear hK K
           refine norm_ (a' := ?_) ?_ ?_
           rotate_left
           ·show Act.put _ (some 24) _ = _
            simp only [Act.put, lsa_, ls0_, ls1_, i64_w, i32_w]
            rfl
           exact norm_ (by first | (simp only [bK_, Act.put, lsa_, ls0_, ls1_]; done) | (simp only [bK_, Act.put, lsa_, ls0_, ls1_]; rfl)) (hJ0_3_5 (.slice (some adz_v114) t113.length co24, adz_v114) _ ⟨(vz HL108_0.out), (nz HO107.out), (rz HO115.out), ⟨_, rfl⟩, (kz BK101.out), (by repeat (first | (with_reducible first | exact HI0.out | apply IsS82.alloc | apply IsS82.drewN | apply IsS82.drew | apply IsS82.set_1 | apply IsS82.set_2 | refine IsS82.far ?_ NB0_101.out _) | exact HI0.out)), (by repeat (first | (with_reducible first | exact HK.out | apply ac_.set_ | apply ah_ | apply al_ | apply ai_ | refine aC_ ?_ GW101.out _) | exact HK.out)), (by repeat (first | (with_reducible first | exact HB.out | apply bA_ | apply bN_ | apply bD_ | refine af_ ?_ (IsS82.ge HI0.out) | refine af_ ?_ GE101.out) | exact HB.out))⟩)
          ·skip
           refine box_step ?hg (N := 5) ?hd (cs := #[.string (⟨#[]⟩ : ByteArray), .int .i64 0, .int .i64 0]) (t := 57) ?hr ?_; (case hd => rfl); (case hg => rfl); (case hr => (go_simp; try rfl))
           intro gb119 hg w25 hbox hb
           have n0_ := Aside0.mk (Kd.N_below (Kd.N_elderB (nz HO107.out) gb119 (Nat.le_of_eq hg.symm)) hb)
           have n1_ := Aside0.mk (Kd.V_below (Kd.V_elderB (vz HL108_0.out) gb119 (Nat.le_of_eq hg.symm)) hb)
           have n2_ := Aside0.mk (Kd.aM_ (rz HO115.out) hb)
           have n3_ := Aside0.mk (IsS82.below (by repeat (first | (with_reducible first | exact HI0.out | apply IsS82.alloc | apply IsS82.drewN | apply IsS82.drew | apply IsS82.set_1 | apply IsS82.set_2 | refine IsS82.far ?_ NB0_101.out _) | exact HI0.out)) hb)
           have n4_ := Aside0.mk (aS_ (kz BK101.out) hb)
           have n5_ := Aside0.mk (ac_.trans (by repeat (first | (with_reducible first | exact HK.out | apply ac_.set_ | apply ah_ | apply al_ | apply ai_ | refine aC_ ?_ GW101.out _) | exact HK.out)) (ac_.of_below hb g none) (.inl rfl))
           have n6_ := Aside0.mk (ab_ (by repeat (first | (with_reducible first | exact HB.out | apply bA_ | apply bN_ | apply bD_ | refine af_ ?_ (IsS82.ge HI0.out) | refine af_ ?_ GE101.out) | exact HB.out)) hb)
           have n7_ := Aside0.mk (hbox)
           have n8_ := Aside0.mk ((by rw [hg]; exact (br_ (w := w) (g := g) (row := none) (by repeat (first | (with_reducible first | exact HK.out | apply ac_.set_ | apply ah_ | apply al_ | apply ai_ | refine aC_ ?_ GW101.out _) | exact HK.out))) : w.heap.size ≤ gb119))
           have n9_ := Aside0.mk ((Nat.le_trans HW0.out (by rw [hg]; exact (br_ (w := w) (g := g) (row := none) (by repeat (first | (with_reducible first | exact HK.out | apply ac_.set_ | apply ah_ | apply al_ | apply ai_ | refine aC_ ?_ GW101.out _) | exact HK.out))) : w.heap.size ≤ gb119) : w0.heap.size ≤ gb119))
           have n10_ := Aside0.mk ((by rw [hg]; exact Nat.ne_of_lt (de_ (kz BK101.out)) : gb101 ≠ gb119))
           have n11_ := Aside0.mk ((by rw [hg]; exact Nat.ne_of_gt (de_ (kz BK101.out)) : gb119 ≠ gb101))
           have n12_ := Aside0.mk ((by rw [hg]; exact Nat.ne_of_lt (IsS82.lt (show IsS82 w0 _ g s0_0 t111 t112 from by repeat (first | (with_reducible first | exact HI0.out | apply IsS82.alloc | apply IsS82.drewN | apply IsS82.drew | apply IsS82.set_1 | apply IsS82.set_2 | refine IsS82.far ?_ NB0_101.out _) | exact HI0.out))) : g ≠ gb119))
           have n13_ := Aside0.mk ((by rw [hg]; exact Nat.ne_of_gt (IsS82.lt (show IsS82 w0 _ g s0_0 t111 t112 from by repeat (first | (with_reducible first | exact HI0.out | apply IsS82.alloc | apply IsS82.drewN | apply IsS82.drew | apply IsS82.set_1 | apply IsS82.set_2 | refine IsS82.far ?_ NB0_101.out _) | exact HI0.out))) : gb119 ≠ g))
           clear HO107
           clear HL108_0
           clear HO115
           clear HI0
           clear BK101
           clear HK
           clear HB
           have HO107 := n0_
           have HL108_0 := n1_
           have HO115 := n2_
           have HI0 := n3_
           have BK101 := n4_
           have HK := n5_
           have HB := n6_
           have BK119 := n7_
           have GW119 := n8_
           have GE119 := n9_
           have NB101_119 := n10_
           have NB119_101 := n11_
           have NB0_119 := n12_
           have NB119_0 := n13_
           clear n0_ n1_ n2_ n3_ n4_ n5_ n6_ n7_ n8_ n9_ n10_ n11_ n12_ n13_
           clear hb hbox hg
           refine hK.out _ _ trivial (fun hHeld => ?_)
           clear hK K
           refine norm_ (a' := ?_) ?_ ?_
           rotate_left
           ·show Act.put _ (some 5) _ = _
            simp only [Act.put, lsa_, ls0_, ls1_, i64_w, i32_w]
            rfl
           exact norm_ (by first | (simp only [bK_, Act.put, lsa_, ls0_, ls1_]; done) | (simp only [bK_, Act.put, lsa_, ls0_, ls1_]; rfl)) (hJ0_3_8 (.slice (some adz_v114) t113.length co24, adz_v114, gb119) _ ⟨(vz (Kd.cG_ HL108_0.out (fun _ hk => ⟨hk.1.1, ⟨hk.1.2.1, ⟨hk.1.2.2.1, ⟨hk.1.2.2.2, hk.2⟩⟩⟩⟩))), (nz (Kd.cN_ HO107.out (fun _ hk => ⟨hk.1.1, ⟨hk.1.2.1, ⟨hk.1.2.2, hk.2⟩⟩⟩))), (rz HO115.out), ⟨_, rfl⟩, (kz BK101.out), (kz BK119.out), GW119.out, GE119.out, NB0_119.out, NB119_0.out, NB101_119.out, NB119_101.out, (by repeat (first | (with_reducible first | exact HI0.out | apply IsS82.alloc | apply IsS82.drewN | apply IsS82.drew | apply IsS82.set_1 | apply IsS82.set_2 | refine IsS82.far ?_ NB0_101.out _ | refine IsS82.far ?_ NB0_119.out _) | exact HI0.out)), (by repeat (first | (with_reducible first | exact HK.out | apply ac_.set_ | apply ah_ | apply al_ | apply ai_ | refine aC_ ?_ GW101.out _ | refine aC_ ?_ GW119.out _) | exact HK.out)), (by repeat (first | (with_reducible first | exact HB.out | apply bA_ | apply bN_ | apply bD_ | refine af_ ?_ (IsS82.ge HI0.out) | refine af_ ?_ GE101.out | refine af_ ?_ GE119.out) | exact HB.out))⟩)
        ·skip
         rintro ⟨v114, adz_v114, gb119⟩ w24 ⟨h0_, h1_, h2_, h3_, h4_, h5_, h6_, h7_, h8_, h9_, h10_, h11_, h12_, h13_, h14_⟩
         have n0_ : Aside0 (Kd.V (Kd.int .i64) 2 w24 w.heap.size (fun k_ => some k_ ≠ (.slice (some ad108) t105.length co18 : Value).ownBlock ∧ some k_ ≠ (v114 : Value).ownBlock ∧ k_ ≠ g ∧ k_ ≠ gb101 ∧ k_ ≠ gb119) (.slice (some ad109) (rd_L2 t105 t102).length c108_0) (rd_L2 t105 t102)) := ⟨h0_⟩
         have n1_ : Aside0 (Kd.N (Kd.slice 2 (Kd.int .i64)) 39 w24 w.heap.size (fun k_ => some k_ ≠ (v114 : Value).ownBlock ∧ k_ ≠ g ∧ k_ ≠ gb101 ∧ k_ ≠ gb119) (.slice (some ad108) t105.length co18) t105) := ⟨h1_⟩
         have n2_ : Aside0 (Kd.R Kd.string 9 w24 w.heap.size (fun _ => True) v114 t113) := ⟨h2_⟩
         have n3_ : Aside0 (∃ c_, (v114 : Value) = .slice (some adz_v114) t113.length c_) := ⟨h3_⟩
         have n4_ : Aside0 (w24.heap[gb101]? = some (.cells #[.string (⟨#[]⟩ : ByteArray), .int .i64 0, .int .i64 0] 57 (0, 0))) := ⟨h4_⟩
         have n5_ : Aside0 (w24.heap[gb119]? = some (.cells #[.string (⟨#[]⟩ : ByteArray), .int .i64 0, .int .i64 0] 57 (0, 0))) := ⟨h5_⟩
         have n6_ : Aside0 (w.heap.size ≤ gb119) := ⟨h6_⟩
         have n7_ : Aside0 (w0.heap.size ≤ gb119) := ⟨h7_⟩
         have n8_ : Aside0 (g ≠ gb119) := ⟨h8_⟩
         have n9_ : Aside0 (gb119 ≠ g) := ⟨h9_⟩
         have n10_ : Aside0 (gb101 ≠ gb119) := ⟨h10_⟩
         have n11_ : Aside0 (gb119 ≠ gb101) := ⟨h11_⟩
         have n12_ : Aside0 (IsS82 w0 w24 g s0_0 t111 t112) := ⟨h12_⟩
         have n13_ : Aside0 (ac_ w w24 g none) := ⟨h13_⟩
         have n14_ : Aside0 (Below w0.heap.size w0 w24) := ⟨h14_⟩
         clear HO107
         clear HL108_0
         clear BK101
         clear HI0
         clear HK
         clear HB
         clear h0_ h1_ h2_ h3_ h4_ h5_ h6_ h7_ h8_ h9_ h10_ h11_ h12_ h13_ h14_
         have HL108_0 := n0_
         have HO107 := n1_
         have HO115 := n2_
         have HA_HO115 := n3_
         have BK101 := n4_
         have BK119 := n5_
         have GW119 := n6_
         have GE119 := n7_
         have NB0_119 := n8_
         have NB119_0 := n9_
         have NB101_119 := n10_
         have NB119_101 := n11_
         have HI0 := n12_
         have HK := n13_
         have HB := n14_
         clear n0_ n1_ n2_ n3_ n4_ n5_ n6_ n7_ n8_ n9_ n10_ n11_ n12_ n13_ n14_
         have hHeld := trivial
         obtain ⟨co25, eo25⟩ := HA_HO115.out
         clear HA_HO115
         subst eo25
         refine norm_ (a' := ?_) ?_ ?_
         rotate_left
         ·simp only [bK_, Act.put, lsa_, ls0_, ls1_]
          rfl
         refine two_ (i := 3) (j := 6) (Ni := some 22) (Nj := some 25) #[t_,t_,t_,t_,t_,t_,f_,f_,t_,f_] #[t_,t_,t_,f_,t_,t_,t_,f_,t_,f_] rfl rfl rfl rfl (two_of HT_.out (by kernel_rfl)) (by decide) (by decide) (fun K hK => ?_) (fun K hK => ?_)
         ·skip
          (have p116 : 0 ≤ (t102 : Int) := of_decide_eq_true (by assumption); have q116 : t102 < (t113.length : Int) := of_decide_eq_true (by assumption); obtain ⟨ad116, e116, hx116_0⟩ := Kd.cW_ (Kd.aj_ HO115.out).2.2 t102 p116 q116; obtain rfl : adz_v114 = ad116 := (by injection e116))
          refine value_ (w1 := ?_) (v := ?_) (by rfl) rfl ?_ ?_
          rotate_left 2
          ·go_simp
           constructor
           ·rfl
           ·rfl
          clear hx116_0
          refine hK.out _ _ trivial (fun hHeld => ?_)
          clear hK K
          refine norm_ (a' := ?_) ?_ ?_
          rotate_left
          ·show Act.put _ (some 22) _ = _
           simp only [Act.put, lsa_, ls0_, ls1_, i64_w, i32_w]
           rfl
          exact norm_ (by first | (simp only [bK_, Act.put, lsa_, ls0_, ls1_]; done) | (simp only [bK_, Act.put, lsa_, ls0_, ls1_]; rfl)) (hJ0_3_5_8 (.slice (some adz_v114) t113.length co25, adz_v114, gb119) _ ⟨(vz HL108_0.out), (nz HO107.out), (rz HO115.out), ⟨_, rfl⟩, (kz BK101.out), (kz BK119.out), GW119.out, GE119.out, NB0_119.out, NB119_0.out, NB101_119.out, NB119_101.out, (by repeat (first | (with_reducible first | exact HI0.out | apply IsS82.alloc | apply IsS82.drewN | apply IsS82.drew | apply IsS82.set_1 | apply IsS82.set_2 | refine IsS82.far ?_ NB0_101.out _ | refine IsS82.far ?_ NB0_119.out _) | exact HI0.out)), (by repeat (first | (with_reducible first | exact HK.out | apply ac_.set_ | apply ah_ | apply al_ | apply ai_ | refine aC_ ?_ GW101.out _ | refine aC_ ?_ GW119.out _) | exact HK.out)), (by repeat (first | (with_reducible first | exact HB.out | apply bA_ | apply bN_ | apply bD_ | refine af_ ?_ (IsS82.ge HI0.out) | refine af_ ?_ GE101.out | refine af_ ?_ GE119.out) | exact HB.out))⟩)
         ·skip
          (first | refine goes_ Tryd.func70 (by kernel_rfl) rfl #[.int .i64 100, .int .i64 t117] (by rfl) rfl rfl (by first | rfl | (simp only [lma_, lmc_, lmn_]; first | done | rfl)) ?_ | refine RPW.cX_ Tryd.func70 (by kernel_rfl) rfl #[.int .i64 100, .int .i64 t117] (by rfl) rfl rfl rfl (by first | rfl | (simp only [lma_, lmc_, lmn_]; first | done | rfl)) ?_ | refine RPW.cY_ Tryd.func70 (by kernel_rfl) rfl #[.int .i64 100, .int .i64 t117] (by rfl) rfl rfl rfl (by first | rfl | (simp only [lma_, lmc_, lmn_]; first | done | rfl)) ?_)
          with_reducible refine (cP_.calls 100 t117 t118 _ A11.out).mono ?_
          rintro e w' ⟨rfl, ⟨nd, rfl⟩⟩
          refine ⟨_, rfl, ?_⟩
          refine hK.out _ _ trivial (fun hHeld => ?_)
          clear hK K
          refine norm_ (a' := ?_) ?_ ?_
          rotate_left
          ·show Act.put _ (some 25) _ = _
           simp only [Act.put, lsa_, ls0_, ls1_, i64_w, i32_w]
           rfl
          exact norm_ (by first | (simp only [bK_, Act.put, lsa_, ls0_, ls1_]; done) | (simp only [bK_, Act.put, lsa_, ls0_, ls1_]; rfl)) (hJ0_5_6_8 (.slice (some adz_v114) t113.length co25, adz_v114, gb119) _ ⟨(vz HL108_0.out), (nz HO107.out), (rz HO115.out), ⟨_, rfl⟩, (kz BK101.out), (kz BK119.out), GW119.out, GE119.out, NB0_119.out, NB119_0.out, NB101_119.out, NB119_101.out, (by repeat (first | (with_reducible first | exact HI0.out | apply IsS82.alloc | apply IsS82.drewN | apply IsS82.drew | apply IsS82.set_1 | apply IsS82.set_2 | refine IsS82.far ?_ NB0_101.out _ | refine IsS82.far ?_ NB0_119.out _) | exact HI0.out)), (by repeat (first | (with_reducible first | exact HK.out | apply ac_.set_ | apply ah_ | apply al_ | apply ai_ | refine aC_ ?_ GW101.out _ | refine aC_ ?_ GW119.out _) | exact HK.out)), (by repeat (first | (with_reducible first | exact HB.out | apply bA_ | apply bN_ | apply bD_ | refine af_ ?_ (IsS82.ge HI0.out) | refine af_ ?_ GE101.out | refine af_ ?_ GE119.out) | exact HB.out))⟩)
       ·skip
        rintro ⟨v114, adz_v114⟩ w23 ⟨h0_, h1_, h2_, h3_, h4_, h5_, h6_, h7_⟩
        have n0_ : Aside0 (Kd.V (Kd.int .i64) 2 w23 w.heap.size (fun k_ => some k_ ≠ (.slice (some ad108) t105.length co18 : Value).ownBlock ∧ some k_ ≠ (v114 : Value).ownBlock ∧ k_ ≠ g ∧ k_ ≠ gb101) (.slice (some ad109) (rd_L2 t105 t102).length c108_0) (rd_L2 t105 t102)) := ⟨h0_⟩
        have n1_ : Aside0 (Kd.N (Kd.slice 2 (Kd.int .i64)) 39 w23 w.heap.size (fun k_ => some k_ ≠ (v114 : Value).ownBlock ∧ k_ ≠ g ∧ k_ ≠ gb101) (.slice (some ad108) t105.length co18) t105) := ⟨h1_⟩
        have n2_ : Aside0 (Kd.R Kd.string 9 w23 w.heap.size (fun _ => True) v114 t113) := ⟨h2_⟩
        have n3_ : Aside0 (∃ c_, (v114 : Value) = .slice (some adz_v114) t113.length c_) := ⟨h3_⟩
        have n4_ : Aside0 (w23.heap[gb101]? = some (.cells #[.string (⟨#[]⟩ : ByteArray), .int .i64 0, .int .i64 0] 57 (0, 0))) := ⟨h4_⟩
        have n5_ : Aside0 (IsS82 w0 w23 g s0_0 t111 t112) := ⟨h5_⟩
        have n6_ : Aside0 (ac_ w w23 g none) := ⟨h6_⟩
        have n7_ : Aside0 (Below w0.heap.size w0 w23) := ⟨h7_⟩
        clear HO107
        clear HL108_0
        clear BK101
        clear HI0
        clear HK
        clear HB
        clear h0_ h1_ h2_ h3_ h4_ h5_ h6_ h7_
        have HL108_0 := n0_
        have HO107 := n1_
        have HO115 := n2_
        have HA_HO115 := n3_
        have BK101 := n4_
        have HI0 := n5_
        have HK := n6_
        have HB := n7_
        clear n0_ n1_ n2_ n3_ n4_ n5_ n6_ n7_
        have hHeld := trivial
        obtain ⟨co24, eo24⟩ := HA_HO115.out
        clear HA_HO115
        subst eo24
        refine norm_ (a' := ?_) ?_ ?_
        rotate_left
        ·simp only [bK_, Act.put, lsa_, ls0_, ls1_]
         rfl
        refine two_ (i := 3) (j := 8) (Ni := some 22) (Nj := some 5) #[t_,t_,t_,t_,t_,t_,t_,f_,f_,f_] #[t_,t_,t_,f_,t_,t_,t_,f_,t_,f_] rfl rfl rfl rfl (two_of HT_.out (by kernel_rfl)) (by decide) (by decide) (fun K hK => ?_) (fun K hK => ?_)
        ·skip
         (have p116 : 0 ≤ (t102 : Int) := of_decide_eq_true (by assumption); have q116 : t102 < (t113.length : Int) := of_decide_eq_true (by assumption); obtain ⟨ad116, e116, hx116_0⟩ := Kd.cW_ (Kd.aj_ HO115.out).2.2 t102 p116 q116; obtain rfl : adz_v114 = ad116 := (by injection e116))
         refine value_ (w1 := ?_) (v := ?_) (by rfl) rfl ?_ ?_
         rotate_left 2
         ·go_simp
          constructor
          ·rfl
          ·rfl
         clear hx116_0
         refine hK.out _ _ trivial (fun hHeld => ?_)
         clear hK K
         refine norm_ (a' := ?_) ?_ ?_
         rotate_left
         ·show Act.put _ (some 22) _ = _
          simp only [Act.put, lsa_, ls0_, ls1_, i64_w, i32_w]
          rfl
         refine pu 7 26 #[t_,t_,t_,t_,t_,t_,t_,t_,f_,f_] HT_ ?_
         exact norm_ (by first | (simp only [bK_, Act.put, lsa_, ls0_, ls1_]; done) | (simp only [bK_, Act.put, lsa_, ls0_, ls1_]; rfl)) (hJ0_3_5_6 (.slice (some adz_v114) t113.length co24, adz_v114) _ ⟨(vz HL108_0.out), (nz HO107.out), (rz HO115.out), ⟨_, rfl⟩, (kz BK101.out), (by repeat (first | (with_reducible first | exact HI0.out | apply IsS82.alloc | apply IsS82.drewN | apply IsS82.drew | apply IsS82.set_1 | apply IsS82.set_2 | refine IsS82.far ?_ NB0_101.out _) | exact HI0.out)), (by repeat (first | (with_reducible first | exact HK.out | apply ac_.set_ | apply ah_ | apply al_ | apply ai_ | refine aC_ ?_ GW101.out _) | exact HK.out)), (by repeat (first | (with_reducible first | exact HB.out | apply bA_ | apply bN_ | apply bD_ | refine af_ ?_ (IsS82.ge HI0.out) | refine af_ ?_ GE101.out) | exact HB.out))⟩)
        ·skip
         refine box_step ?hg (N := 5) ?hd (cs := #[.string (⟨#[]⟩ : ByteArray), .int .i64 0, .int .i64 0]) (t := 57) ?hr ?_; (case hd => rfl); (case hg => rfl); (case hr => (go_simp; try rfl))
         intro gb119 hg w25 hbox hb
         have n0_ := Aside0.mk (Kd.N_below (Kd.N_elderB (nz HO107.out) gb119 (Nat.le_of_eq hg.symm)) hb)
         have n1_ := Aside0.mk (Kd.V_below (Kd.V_elderB (vz HL108_0.out) gb119 (Nat.le_of_eq hg.symm)) hb)
         have n2_ := Aside0.mk (Kd.aM_ (rz HO115.out) hb)
         have n3_ := Aside0.mk (IsS82.below (by repeat (first | (with_reducible first | exact HI0.out | apply IsS82.alloc | apply IsS82.drewN | apply IsS82.drew | apply IsS82.set_1 | apply IsS82.set_2 | refine IsS82.far ?_ NB0_101.out _) | exact HI0.out)) hb)
         have n4_ := Aside0.mk (aS_ (kz BK101.out) hb)
         have n5_ := Aside0.mk (ac_.trans (by repeat (first | (with_reducible first | exact HK.out | apply ac_.set_ | apply ah_ | apply al_ | apply ai_ | refine aC_ ?_ GW101.out _) | exact HK.out)) (ac_.of_below hb g none) (.inl rfl))
         have n6_ := Aside0.mk (ab_ (by repeat (first | (with_reducible first | exact HB.out | apply bA_ | apply bN_ | apply bD_ | refine af_ ?_ (IsS82.ge HI0.out) | refine af_ ?_ GE101.out) | exact HB.out)) hb)
         have n7_ := Aside0.mk (hbox)
         have n8_ := Aside0.mk ((by rw [hg]; exact (br_ (w := w) (g := g) (row := none) (by repeat (first | (with_reducible first | exact HK.out | apply ac_.set_ | apply ah_ | apply al_ | apply ai_ | refine aC_ ?_ GW101.out _) | exact HK.out))) : w.heap.size ≤ gb119))
         have n9_ := Aside0.mk ((Nat.le_trans HW0.out (by rw [hg]; exact (br_ (w := w) (g := g) (row := none) (by repeat (first | (with_reducible first | exact HK.out | apply ac_.set_ | apply ah_ | apply al_ | apply ai_ | refine aC_ ?_ GW101.out _) | exact HK.out))) : w.heap.size ≤ gb119) : w0.heap.size ≤ gb119))
         have n10_ := Aside0.mk ((by rw [hg]; exact Nat.ne_of_lt (de_ (kz BK101.out)) : gb101 ≠ gb119))
         have n11_ := Aside0.mk ((by rw [hg]; exact Nat.ne_of_gt (de_ (kz BK101.out)) : gb119 ≠ gb101))
         have n12_ := Aside0.mk ((by rw [hg]; exact Nat.ne_of_lt (IsS82.lt (show IsS82 w0 _ g s0_0 t111 t112 from by repeat (first | (with_reducible first | exact HI0.out | apply IsS82.alloc | apply IsS82.drewN | apply IsS82.drew | apply IsS82.set_1 | apply IsS82.set_2 | refine IsS82.far ?_ NB0_101.out _) | exact HI0.out))) : g ≠ gb119))
         have n13_ := Aside0.mk ((by rw [hg]; exact Nat.ne_of_gt (IsS82.lt (show IsS82 w0 _ g s0_0 t111 t112 from by repeat (first | (with_reducible first | exact HI0.out | apply IsS82.alloc | apply IsS82.drewN | apply IsS82.drew | apply IsS82.set_1 | apply IsS82.set_2 | refine IsS82.far ?_ NB0_101.out _) | exact HI0.out))) : gb119 ≠ g))
         clear HO107
         clear HL108_0
         clear HO115
         clear HI0
         clear BK101
         clear HK
         clear HB
         have HO107 := n0_
         have HL108_0 := n1_
         have HO115 := n2_
         have HI0 := n3_
         have BK101 := n4_
         have HK := n5_
         have HB := n6_
         have BK119 := n7_
         have GW119 := n8_
         have GE119 := n9_
         have NB101_119 := n10_
         have NB119_101 := n11_
         have NB0_119 := n12_
         have NB119_0 := n13_
         clear n0_ n1_ n2_ n3_ n4_ n5_ n6_ n7_ n8_ n9_ n10_ n11_ n12_ n13_
         clear hb hbox hg
         refine hK.out _ _ trivial (fun hHeld => ?_)
         clear hK K
         refine norm_ (a' := ?_) ?_ ?_
         rotate_left
         ·show Act.put _ (some 5) _ = _
          simp only [Act.put, lsa_, ls0_, ls1_, i64_w, i32_w]
          rfl
         exact norm_ (by first | (simp only [bK_, Act.put, lsa_, ls0_, ls1_]; done) | (simp only [bK_, Act.put, lsa_, ls0_, ls1_]; rfl)) (hJ0_5_6_8 (.slice (some adz_v114) t113.length co24, adz_v114, gb119) _ ⟨(vz (Kd.cG_ HL108_0.out (fun _ hk => ⟨hk.1.1, ⟨hk.1.2.1, ⟨hk.1.2.2.1, ⟨hk.1.2.2.2, hk.2⟩⟩⟩⟩))), (nz (Kd.cN_ HO107.out (fun _ hk => ⟨hk.1.1, ⟨hk.1.2.1, ⟨hk.1.2.2, hk.2⟩⟩⟩))), (rz HO115.out), ⟨_, rfl⟩, (kz BK101.out), (kz BK119.out), GW119.out, GE119.out, NB0_119.out, NB119_0.out, NB101_119.out, NB119_101.out, (by repeat (first | (with_reducible first | exact HI0.out | apply IsS82.alloc | apply IsS82.drewN | apply IsS82.drew | apply IsS82.set_1 | apply IsS82.set_2 | refine IsS82.far ?_ NB0_101.out _ | refine IsS82.far ?_ NB0_119.out _) | exact HI0.out)), (by repeat (first | (with_reducible first | exact HK.out | apply ac_.set_ | apply ah_ | apply al_ | apply ai_ | refine aC_ ?_ GW101.out _ | refine aC_ ?_ GW119.out _) | exact HK.out)), (by repeat (first | (with_reducible first | exact HB.out | apply bA_ | apply bN_ | apply bD_ | refine af_ ?_ (IsS82.ge HI0.out) | refine af_ ?_ GE101.out | refine af_ ?_ GE119.out) | exact HB.out))⟩)
      ·skip
       rintro ⟨v114, adz_v114, gb119⟩ w24 ⟨h0_, h1_, h2_, h3_, h4_, h5_, h6_, h7_, h8_, h9_, h10_, h11_, h12_, h13_, h14_⟩
       have n0_ : Aside0 (Kd.V (Kd.int .i64) 2 w24 w.heap.size (fun k_ => some k_ ≠ (.slice (some ad108) t105.length co18 : Value).ownBlock ∧ some k_ ≠ (v114 : Value).ownBlock ∧ k_ ≠ g ∧ k_ ≠ gb101 ∧ k_ ≠ gb119) (.slice (some ad109) (rd_L2 t105 t102).length c108_0) (rd_L2 t105 t102)) := ⟨h0_⟩
       have n1_ : Aside0 (Kd.N (Kd.slice 2 (Kd.int .i64)) 39 w24 w.heap.size (fun k_ => some k_ ≠ (v114 : Value).ownBlock ∧ k_ ≠ g ∧ k_ ≠ gb101 ∧ k_ ≠ gb119) (.slice (some ad108) t105.length co18) t105) := ⟨h1_⟩
       have n2_ : Aside0 (Kd.R Kd.string 9 w24 w.heap.size (fun _ => True) v114 t113) := ⟨h2_⟩
       have n3_ : Aside0 (∃ c_, (v114 : Value) = .slice (some adz_v114) t113.length c_) := ⟨h3_⟩
       have n4_ : Aside0 (w24.heap[gb101]? = some (.cells #[.string (⟨#[]⟩ : ByteArray), .int .i64 0, .int .i64 0] 57 (0, 0))) := ⟨h4_⟩
       have n5_ : Aside0 (w24.heap[gb119]? = some (.cells #[.string (⟨#[]⟩ : ByteArray), .int .i64 0, .int .i64 0] 57 (0, 0))) := ⟨h5_⟩
       have n6_ : Aside0 (w.heap.size ≤ gb119) := ⟨h6_⟩
       have n7_ : Aside0 (w0.heap.size ≤ gb119) := ⟨h7_⟩
       have n8_ : Aside0 (g ≠ gb119) := ⟨h8_⟩
       have n9_ : Aside0 (gb119 ≠ g) := ⟨h9_⟩
       have n10_ : Aside0 (gb101 ≠ gb119) := ⟨h10_⟩
       have n11_ : Aside0 (gb119 ≠ gb101) := ⟨h11_⟩
       have n12_ : Aside0 (IsS82 w0 w24 g s0_0 t111 t112) := ⟨h12_⟩
       have n13_ : Aside0 (ac_ w w24 g none) := ⟨h13_⟩
       have n14_ : Aside0 (Below w0.heap.size w0 w24) := ⟨h14_⟩
       clear HO107
       clear HL108_0
       clear BK101
       clear HI0
       clear HK
       clear HB
       clear h0_ h1_ h2_ h3_ h4_ h5_ h6_ h7_ h8_ h9_ h10_ h11_ h12_ h13_ h14_
       have HL108_0 := n0_
       have HO107 := n1_
       have HO115 := n2_
       have HA_HO115 := n3_
       have BK101 := n4_
       have BK119 := n5_
       have GW119 := n6_
       have GE119 := n7_
       have NB0_119 := n8_
       have NB119_0 := n9_
       have NB101_119 := n10_
       have NB119_101 := n11_
       have HI0 := n12_
       have HK := n13_
       have HB := n14_
       clear n0_ n1_ n2_ n3_ n4_ n5_ n6_ n7_ n8_ n9_ n10_ n11_ n12_ n13_ n14_
       have hHeld := trivial
       obtain ⟨co25, eo25⟩ := HA_HO115.out
       clear HA_HO115
       subst eo25
       refine norm_ (a' := ?_) ?_ ?_
       rotate_left
       ·simp only [bK_, Act.put, lsa_, ls0_, ls1_]
        rfl
       refine one_ (i := 5) (N := some 24) #[t_,t_,t_,t_,t_,t_,f_,f_,t_,f_] rfl rfl (cV_ HT_.out (by kernel_rfl)) (by decide) (fun K hK => ?_)
       (first | refine goes_ Tryd.func71 (by kernel_rfl) rfl #[.int .i64 0, .int .i64 (wrap64 ((wrap64 ((rd (rd_L2 t105 t102) 0) + t110)) - 10))] (by rfl) rfl rfl (by first | rfl | (simp only [lma_, lmc_, lmn_]; first | done | rfl)) ?_ | refine RPW.cX_ Tryd.func71 (by kernel_rfl) rfl #[.int .i64 0, .int .i64 (wrap64 ((wrap64 ((rd (rd_L2 t105 t102) 0) + t110)) - 10))] (by rfl) rfl rfl rfl (by first | rfl | (simp only [lma_, lmc_, lmn_]; first | done | rfl)) ?_ | refine RPW.cY_ Tryd.func71 (by kernel_rfl) rfl #[.int .i64 0, .int .i64 (wrap64 ((wrap64 ((rd (rd_L2 t105 t102) 0) + t110)) - 10))] (by rfl) rfl rfl rfl (by first | rfl | (simp only [lma_, lmc_, lmn_]; first | done | rfl)) ?_)
       with_reducible refine (cS_.calls 0 (wrap64 ((wrap64 ((rd (rd_L2 t105 t102) 0) + t110)) - 10)) t117 _ A10.out).mono ?_
       rintro e w' ⟨rfl, ⟨nd, rfl⟩⟩
       refine ⟨_, rfl, ?_⟩
       refine hK.out _ _ trivial (fun hHeld => ?_)
       clear hK K
       refine norm_ (a' := ?_) ?_ ?_
       rotate_left
       ·show Act.put _ (some 24) _ = _
        simp only [Act.put, lsa_, ls0_, ls1_, i64_w, i32_w]
        rfl
       exact norm_ (by first | (simp only [bK_, Act.put, lsa_, ls0_, ls1_]; done) | (simp only [bK_, Act.put, lsa_, ls0_, ls1_]; rfl)) (hJ0_3_5_8 (.slice (some adz_v114) t113.length co25, adz_v114, gb119) _ ⟨(vz HL108_0.out), (nz HO107.out), (rz HO115.out), ⟨_, rfl⟩, (kz BK101.out), (kz BK119.out), GW119.out, GE119.out, NB0_119.out, NB119_0.out, NB101_119.out, NB119_101.out, (by repeat (first | (with_reducible first | exact HI0.out | apply IsS82.alloc | apply IsS82.drewN | apply IsS82.drew | apply IsS82.set_1 | apply IsS82.set_2 | refine IsS82.far ?_ NB0_101.out _ | refine IsS82.far ?_ NB0_119.out _) | exact HI0.out)), (by repeat (first | (with_reducible first | exact HK.out | apply ac_.set_ | apply ah_ | apply al_ | apply ai_ | refine aC_ ?_ GW101.out _ | refine aC_ ?_ GW119.out _) | exact HK.out)), (by repeat (first | (with_reducible first | exact HB.out | apply bA_ | apply bN_ | apply bD_ | refine af_ ?_ (IsS82.ge HI0.out) | refine af_ ?_ GE101.out | refine af_ ?_ GE119.out) | exact HB.out))⟩)
     ·skip
      rintro ⟨v114, adz_v114⟩ w23 ⟨h0_, h1_, h2_, h3_, h4_, h5_, h6_, h7_⟩
      have n0_ : Aside0 (Kd.V (Kd.int .i64) 2 w23 w.heap.size (fun k_ => some k_ ≠ (.slice (some ad108) t105.length co18 : Value).ownBlock ∧ some k_ ≠ (v114 : Value).ownBlock ∧ k_ ≠ g ∧ k_ ≠ gb101) (.slice (some ad109) (rd_L2 t105 t102).length c108_0) (rd_L2 t105 t102)) := ⟨h0_⟩
      have n1_ : Aside0 (Kd.N (Kd.slice 2 (Kd.int .i64)) 39 w23 w.heap.size (fun k_ => some k_ ≠ (v114 : Value).ownBlock ∧ k_ ≠ g ∧ k_ ≠ gb101) (.slice (some ad108) t105.length co18) t105) := ⟨h1_⟩
      have n2_ : Aside0 (Kd.R Kd.string 9 w23 w.heap.size (fun _ => True) v114 t113) := ⟨h2_⟩
      have n3_ : Aside0 (∃ c_, (v114 : Value) = .slice (some adz_v114) t113.length c_) := ⟨h3_⟩
      have n4_ : Aside0 (w23.heap[gb101]? = some (.cells #[.string (⟨#[]⟩ : ByteArray), .int .i64 0, .int .i64 0] 57 (0, 0))) := ⟨h4_⟩
      have n5_ : Aside0 (IsS82 w0 w23 g s0_0 t111 t112) := ⟨h5_⟩
      have n6_ : Aside0 (ac_ w w23 g none) := ⟨h6_⟩
      have n7_ : Aside0 (Below w0.heap.size w0 w23) := ⟨h7_⟩
      clear HO107
      clear HL108_0
      clear BK101
      clear HI0
      clear HK
      clear HB
      clear h0_ h1_ h2_ h3_ h4_ h5_ h6_ h7_
      have HL108_0 := n0_
      have HO107 := n1_
      have HO115 := n2_
      have HA_HO115 := n3_
      have BK101 := n4_
      have HI0 := n5_
      have HK := n6_
      have HB := n7_
      clear n0_ n1_ n2_ n3_ n4_ n5_ n6_ n7_
      have hHeld := trivial
      obtain ⟨co24, eo24⟩ := HA_HO115.out
      clear HA_HO115
      subst eo24
      refine norm_ (a' := ?_) ?_ ?_
      rotate_left
      ·simp only [bK_, Act.put, lsa_, ls0_, ls1_]
       rfl
      refine two_ (i := 6) (j := 8) (Ni := some 25) (Nj := some 5) #[t_,t_,t_,t_,t_,t_,t_,f_,f_,f_] #[t_,t_,t_,t_,t_,t_,f_,f_,t_,f_] rfl rfl rfl rfl (two_of HT_.out (by kernel_rfl)) (by decide) (by decide) (fun K hK => ?_) (fun K hK => ?_)
      ·skip
       (first | refine goes_ Tryd.func70 (by kernel_rfl) rfl #[.int .i64 100, .int .i64 t117] (by rfl) rfl rfl (by first | rfl | (simp only [lma_, lmc_, lmn_]; first | done | rfl)) ?_ | refine RPW.cX_ Tryd.func70 (by kernel_rfl) rfl #[.int .i64 100, .int .i64 t117] (by rfl) rfl rfl rfl (by first | rfl | (simp only [lma_, lmc_, lmn_]; first | done | rfl)) ?_ | refine RPW.cY_ Tryd.func70 (by kernel_rfl) rfl #[.int .i64 100, .int .i64 t117] (by rfl) rfl rfl rfl (by first | rfl | (simp only [lma_, lmc_, lmn_]; first | done | rfl)) ?_)
       with_reducible refine (cP_.calls 100 t117 t118 _ A11.out).mono ?_
       rintro e w' ⟨rfl, ⟨nd, rfl⟩⟩
       refine ⟨_, rfl, ?_⟩
       refine hK.out _ _ trivial (fun hHeld => ?_)
       clear hK K
       refine norm_ (a' := ?_) ?_ ?_
       rotate_left
       ·show Act.put _ (some 25) _ = _
        simp only [Act.put, lsa_, ls0_, ls1_, i64_w, i32_w]
        rfl
       refine pu 7 26 #[t_,t_,t_,t_,t_,t_,t_,t_,f_,f_] HT_ ?_
       exact norm_ (by first | (simp only [bK_, Act.put, lsa_, ls0_, ls1_]; done) | (simp only [bK_, Act.put, lsa_, ls0_, ls1_]; rfl)) (hJ0_3_5_6 (.slice (some adz_v114) t113.length co24, adz_v114) _ ⟨(vz HL108_0.out), (nz HO107.out), (rz HO115.out), ⟨_, rfl⟩, (kz BK101.out), (by repeat (first | (with_reducible first | exact HI0.out | apply IsS82.alloc | apply IsS82.drewN | apply IsS82.drew | apply IsS82.set_1 | apply IsS82.set_2 | refine IsS82.far ?_ NB0_101.out _) | exact HI0.out)), (by repeat (first | (with_reducible first | exact HK.out | apply ac_.set_ | apply ah_ | apply al_ | apply ai_ | refine aC_ ?_ GW101.out _) | exact HK.out)), (by repeat (first | (with_reducible first | exact HB.out | apply bA_ | apply bN_ | apply bD_ | refine af_ ?_ (IsS82.ge HI0.out) | refine af_ ?_ GE101.out) | exact HB.out))⟩)
      ·skip
       refine box_step ?hg (N := 5) ?hd (cs := #[.string (⟨#[]⟩ : ByteArray), .int .i64 0, .int .i64 0]) (t := 57) ?hr ?_; (case hd => rfl); (case hg => rfl); (case hr => (go_simp; try rfl))
       intro gb119 hg w25 hbox hb
       have n0_ := Aside0.mk (Kd.N_below (Kd.N_elderB (nz HO107.out) gb119 (Nat.le_of_eq hg.symm)) hb)
       have n1_ := Aside0.mk (Kd.V_below (Kd.V_elderB (vz HL108_0.out) gb119 (Nat.le_of_eq hg.symm)) hb)
       have n2_ := Aside0.mk (Kd.aM_ (rz HO115.out) hb)
       have n3_ := Aside0.mk (IsS82.below (by repeat (first | (with_reducible first | exact HI0.out | apply IsS82.alloc | apply IsS82.drewN | apply IsS82.drew | apply IsS82.set_1 | apply IsS82.set_2 | refine IsS82.far ?_ NB0_101.out _) | exact HI0.out)) hb)
       have n4_ := Aside0.mk (aS_ (kz BK101.out) hb)
       have n5_ := Aside0.mk (ac_.trans (by repeat (first | (with_reducible first | exact HK.out | apply ac_.set_ | apply ah_ | apply al_ | apply ai_ | refine aC_ ?_ GW101.out _) | exact HK.out)) (ac_.of_below hb g none) (.inl rfl))
       have n6_ := Aside0.mk (ab_ (by repeat (first | (with_reducible first | exact HB.out | apply bA_ | apply bN_ | apply bD_ | refine af_ ?_ (IsS82.ge HI0.out) | refine af_ ?_ GE101.out) | exact HB.out)) hb)
       have n7_ := Aside0.mk (hbox)
       have n8_ := Aside0.mk ((by rw [hg]; exact (br_ (w := w) (g := g) (row := none) (by repeat (first | (with_reducible first | exact HK.out | apply ac_.set_ | apply ah_ | apply al_ | apply ai_ | refine aC_ ?_ GW101.out _) | exact HK.out))) : w.heap.size ≤ gb119))
       have n9_ := Aside0.mk ((Nat.le_trans HW0.out (by rw [hg]; exact (br_ (w := w) (g := g) (row := none) (by repeat (first | (with_reducible first | exact HK.out | apply ac_.set_ | apply ah_ | apply al_ | apply ai_ | refine aC_ ?_ GW101.out _) | exact HK.out))) : w.heap.size ≤ gb119) : w0.heap.size ≤ gb119))
       have n10_ := Aside0.mk ((by rw [hg]; exact Nat.ne_of_lt (de_ (kz BK101.out)) : gb101 ≠ gb119))
       have n11_ := Aside0.mk ((by rw [hg]; exact Nat.ne_of_gt (de_ (kz BK101.out)) : gb119 ≠ gb101))
       have n12_ := Aside0.mk ((by rw [hg]; exact Nat.ne_of_lt (IsS82.lt (show IsS82 w0 _ g s0_0 t111 t112 from by repeat (first | (with_reducible first | exact HI0.out | apply IsS82.alloc | apply IsS82.drewN | apply IsS82.drew | apply IsS82.set_1 | apply IsS82.set_2 | refine IsS82.far ?_ NB0_101.out _) | exact HI0.out))) : g ≠ gb119))
       have n13_ := Aside0.mk ((by rw [hg]; exact Nat.ne_of_gt (IsS82.lt (show IsS82 w0 _ g s0_0 t111 t112 from by repeat (first | (with_reducible first | exact HI0.out | apply IsS82.alloc | apply IsS82.drewN | apply IsS82.drew | apply IsS82.set_1 | apply IsS82.set_2 | refine IsS82.far ?_ NB0_101.out _) | exact HI0.out))) : gb119 ≠ g))
       clear HO107
       clear HL108_0
       clear HO115
       clear HI0
       clear BK101
       clear HK
       clear HB
       have HO107 := n0_
       have HL108_0 := n1_
       have HO115 := n2_
       have HI0 := n3_
       have BK101 := n4_
       have HK := n5_
       have HB := n6_
       have BK119 := n7_
       have GW119 := n8_
       have GE119 := n9_
       have NB101_119 := n10_
       have NB119_101 := n11_
       have NB0_119 := n12_
       have NB119_0 := n13_
       clear n0_ n1_ n2_ n3_ n4_ n5_ n6_ n7_ n8_ n9_ n10_ n11_ n12_ n13_
       clear hb hbox hg
       refine hK.out _ _ trivial (fun hHeld => ?_)
       clear hK K
       refine norm_ (a' := ?_) ?_ ?_
       rotate_left
       ·show Act.put _ (some 5) _ = _
        simp only [Act.put, lsa_, ls0_, ls1_, i64_w, i32_w]
        rfl
       exact norm_ (by first | (simp only [bK_, Act.put, lsa_, ls0_, ls1_]; done) | (simp only [bK_, Act.put, lsa_, ls0_, ls1_]; rfl)) (hJ0_3_5_8 (.slice (some adz_v114) t113.length co24, adz_v114, gb119) _ ⟨(vz (Kd.cG_ HL108_0.out (fun _ hk => ⟨hk.1.1, ⟨hk.1.2.1, ⟨hk.1.2.2.1, ⟨hk.1.2.2.2, hk.2⟩⟩⟩⟩))), (nz (Kd.cN_ HO107.out (fun _ hk => ⟨hk.1.1, ⟨hk.1.2.1, ⟨hk.1.2.2, hk.2⟩⟩⟩))), (rz HO115.out), ⟨_, rfl⟩, (kz BK101.out), (kz BK119.out), GW119.out, GE119.out, NB0_119.out, NB119_0.out, NB101_119.out, NB119_101.out, (by repeat (first | (with_reducible first | exact HI0.out | apply IsS82.alloc | apply IsS82.drewN | apply IsS82.drew | apply IsS82.set_1 | apply IsS82.set_2 | refine IsS82.far ?_ NB0_101.out _ | refine IsS82.far ?_ NB0_119.out _) | exact HI0.out)), (by repeat (first | (with_reducible first | exact HK.out | apply ac_.set_ | apply ah_ | apply al_ | apply ai_ | refine aC_ ?_ GW101.out _ | refine aC_ ?_ GW119.out _) | exact HK.out)), (by repeat (first | (with_reducible first | exact HB.out | apply bA_ | apply bN_ | apply bD_ | refine af_ ?_ (IsS82.ge HI0.out) | refine af_ ?_ GE101.out | refine af_ ?_ GE119.out) | exact HB.out))⟩)
    ·skip
     rintro ⟨v114, adz_v114, gb119⟩ w24 ⟨h0_, h1_, h2_, h3_, h4_, h5_, h6_, h7_, h8_, h9_, h10_, h11_, h12_, h13_, h14_⟩
     have n0_ : Aside0 (Kd.V (Kd.int .i64) 2 w24 w.heap.size (fun k_ => some k_ ≠ (.slice (some ad108) t105.length co18 : Value).ownBlock ∧ some k_ ≠ (v114 : Value).ownBlock ∧ k_ ≠ g ∧ k_ ≠ gb101 ∧ k_ ≠ gb119) (.slice (some ad109) (rd_L2 t105 t102).length c108_0) (rd_L2 t105 t102)) := ⟨h0_⟩
     have n1_ : Aside0 (Kd.N (Kd.slice 2 (Kd.int .i64)) 39 w24 w.heap.size (fun k_ => some k_ ≠ (v114 : Value).ownBlock ∧ k_ ≠ g ∧ k_ ≠ gb101 ∧ k_ ≠ gb119) (.slice (some ad108) t105.length co18) t105) := ⟨h1_⟩
     have n2_ : Aside0 (Kd.R Kd.string 9 w24 w.heap.size (fun _ => True) v114 t113) := ⟨h2_⟩
     have n3_ : Aside0 (∃ c_, (v114 : Value) = .slice (some adz_v114) t113.length c_) := ⟨h3_⟩
     have n4_ : Aside0 (w24.heap[gb101]? = some (.cells #[.string (⟨#[]⟩ : ByteArray), .int .i64 0, .int .i64 0] 57 (0, 0))) := ⟨h4_⟩
     have n5_ : Aside0 (w24.heap[gb119]? = some (.cells #[.string (⟨#[]⟩ : ByteArray), .int .i64 0, .int .i64 0] 57 (0, 0))) := ⟨h5_⟩
     have n6_ : Aside0 (w.heap.size ≤ gb119) := ⟨h6_⟩
     have n7_ : Aside0 (w0.heap.size ≤ gb119) := ⟨h7_⟩
     have n8_ : Aside0 (g ≠ gb119) := ⟨h8_⟩
     have n9_ : Aside0 (gb119 ≠ g) := ⟨h9_⟩
     have n10_ : Aside0 (gb101 ≠ gb119) := ⟨h10_⟩
     have n11_ : Aside0 (gb119 ≠ gb101) := ⟨h11_⟩
     have n12_ : Aside0 (IsS82 w0 w24 g s0_0 t111 t112) := ⟨h12_⟩
     have n13_ : Aside0 (ac_ w w24 g none) := ⟨h13_⟩
     have n14_ : Aside0 (Below w0.heap.size w0 w24) := ⟨h14_⟩
     clear HO107
     clear HL108_0
     clear BK101
     clear HI0
     clear HK
     clear HB
     clear h0_ h1_ h2_ h3_ h4_ h5_ h6_ h7_ h8_ h9_ h10_ h11_ h12_ h13_ h14_
     have HL108_0 := n0_
     have HO107 := n1_
     have HO115 := n2_
     have HA_HO115 := n3_
     have BK101 := n4_
     have BK119 := n5_
     have GW119 := n6_
     have GE119 := n7_
     have NB0_119 := n8_
     have NB119_0 := n9_
     have NB101_119 := n10_
     have NB119_101 := n11_
     have HI0 := n12_
     have HK := n13_
     have HB := n14_
     clear n0_ n1_ n2_ n3_ n4_ n5_ n6_ n7_ n8_ n9_ n10_ n11_ n12_ n13_ n14_
     have hHeld := trivial
     obtain ⟨co25, eo25⟩ := HA_HO115.out
     clear HA_HO115
     subst eo25
     refine norm_ (a' := ?_) ?_ ?_
     rotate_left
     ·simp only [bK_, Act.put, lsa_, ls0_, ls1_]
      rfl
     refine one_ (i := 3) (N := some 22) #[t_,t_,t_,t_,t_,t_,t_,f_,t_,f_] rfl rfl (cV_ HT_.out (by kernel_rfl)) (by decide) (fun K hK => ?_)
     (have p116 : 0 ≤ (t102 : Int) := of_decide_eq_true (by assumption); have q116 : t102 < (t113.length : Int) := of_decide_eq_true (by assumption); obtain ⟨ad116, e116, hx116_0⟩ := Kd.cW_ (Kd.aj_ HO115.out).2.2 t102 p116 q116; obtain rfl : adz_v114 = ad116 := (by injection e116))
     refine value_ (w1 := ?_) (v := ?_) (by rfl) rfl ?_ ?_
     rotate_left 2
     ·go_simp
      constructor
      ·rfl
      ·rfl
     clear hx116_0
     refine hK.out _ _ trivial (fun hHeld => ?_)
     clear hK K
     refine norm_ (a' := ?_) ?_ ?_
     rotate_left
     ·show Act.put _ (some 22) _ = _
      simp only [Act.put, lsa_, ls0_, ls1_, i64_w, i32_w]
      rfl
     refine pu 7 26 #[t_,t_,t_,t_,t_,t_,t_,t_,t_,f_] HT_ ?_
     exact norm_ (by first | (simp only [bK_, Act.put, lsa_, ls0_, ls1_]; done) | (simp only [bK_, Act.put, lsa_, ls0_, ls1_]; rfl)) (hJ0_3_5_6_8 (.slice (some adz_v114) t113.length co25, adz_v114, gb119) _ ⟨(vz HL108_0.out), (nz HO107.out), (rz HO115.out), ⟨_, rfl⟩, (kz BK101.out), (kz BK119.out), GW119.out, GE119.out, NB0_119.out, NB119_0.out, NB101_119.out, NB119_101.out, (by repeat (first | (with_reducible first | exact HI0.out | apply IsS82.alloc | apply IsS82.drewN | apply IsS82.drew | apply IsS82.set_1 | apply IsS82.set_2 | refine IsS82.far ?_ NB0_101.out _ | refine IsS82.far ?_ NB0_119.out _) | exact HI0.out)), (by repeat (first | (with_reducible first | exact HK.out | apply ac_.set_ | apply ah_ | apply al_ | apply ai_ | refine aC_ ?_ GW101.out _ | refine aC_ ?_ GW119.out _) | exact HK.out)), (by repeat (first | (with_reducible first | exact HB.out | apply bA_ | apply bN_ | apply bD_ | refine af_ ?_ (IsS82.ge HI0.out) | refine af_ ?_ GE101.out | refine af_ ?_ GE119.out) | exact HB.out))⟩)
   ·skip
    rintro ⟨v114, adz_v114, gb119⟩ w24 ⟨h0_, h1_, h2_, h3_, h4_, h5_, h6_, h7_, h8_, h9_, h10_, h11_, h12_, h13_, h14_⟩
    have n0_ : Aside0 (Kd.V (Kd.int .i64) 2 w24 w.heap.size (fun k_ => some k_ ≠ (.slice (some ad108) t105.length co18 : Value).ownBlock ∧ some k_ ≠ (v114 : Value).ownBlock ∧ k_ ≠ g ∧ k_ ≠ gb101 ∧ k_ ≠ gb119) (.slice (some ad109) (rd_L2 t105 t102).length c108_0) (rd_L2 t105 t102)) := ⟨h0_⟩
    have n1_ : Aside0 (Kd.N (Kd.slice 2 (Kd.int .i64)) 39 w24 w.heap.size (fun k_ => some k_ ≠ (v114 : Value).ownBlock ∧ k_ ≠ g ∧ k_ ≠ gb101 ∧ k_ ≠ gb119) (.slice (some ad108) t105.length co18) t105) := ⟨h1_⟩
    have n2_ : Aside0 (Kd.R Kd.string 9 w24 w.heap.size (fun _ => True) v114 t113) := ⟨h2_⟩
    have n3_ : Aside0 (∃ c_, (v114 : Value) = .slice (some adz_v114) t113.length c_) := ⟨h3_⟩
    have n4_ : Aside0 (w24.heap[gb101]? = some (.cells #[.string (⟨#[]⟩ : ByteArray), .int .i64 0, .int .i64 0] 57 (0, 0))) := ⟨h4_⟩
    have n5_ : Aside0 (w24.heap[gb119]? = some (.cells #[.string (⟨#[]⟩ : ByteArray), .int .i64 0, .int .i64 0] 57 (0, 0))) := ⟨h5_⟩
    have n6_ : Aside0 (w.heap.size ≤ gb119) := ⟨h6_⟩
    have n7_ : Aside0 (w0.heap.size ≤ gb119) := ⟨h7_⟩
    have n8_ : Aside0 (g ≠ gb119) := ⟨h8_⟩
    have n9_ : Aside0 (gb119 ≠ g) := ⟨h9_⟩
    have n10_ : Aside0 (gb101 ≠ gb119) := ⟨h10_⟩
    have n11_ : Aside0 (gb119 ≠ gb101) := ⟨h11_⟩
    have n12_ : Aside0 (IsS82 w0 w24 g s0_0 t111 t112) := ⟨h12_⟩
    have n13_ : Aside0 (ac_ w w24 g none) := ⟨h13_⟩
    have n14_ : Aside0 (Below w0.heap.size w0 w24) := ⟨h14_⟩
    clear HO107
    clear HL108_0
    clear BK101
    clear HI0
    clear HK
    clear HB
    clear h0_ h1_ h2_ h3_ h4_ h5_ h6_ h7_ h8_ h9_ h10_ h11_ h12_ h13_ h14_
    have HL108_0 := n0_
    have HO107 := n1_
    have HO115 := n2_
    have HA_HO115 := n3_
    have BK101 := n4_
    have BK119 := n5_
    have GW119 := n6_
    have GE119 := n7_
    have NB0_119 := n8_
    have NB119_0 := n9_
    have NB101_119 := n10_
    have NB119_101 := n11_
    have HI0 := n12_
    have HK := n13_
    have HB := n14_
    clear n0_ n1_ n2_ n3_ n4_ n5_ n6_ n7_ n8_ n9_ n10_ n11_ n12_ n13_ n14_
    have hHeld := trivial
    obtain ⟨co25, eo25⟩ := HA_HO115.out
    clear HA_HO115
    subst eo25
    refine norm_ (a' := ?_) ?_ ?_
    rotate_left
    ·simp only [bK_, Act.put, lsa_, ls0_, ls1_]
     rfl
    refine one_ (i := 6) (N := some 25) #[t_,t_,t_,t_,t_,t_,t_,f_,t_,f_] rfl rfl (cV_ HT_.out (by kernel_rfl)) (by decide) (fun K hK => ?_)
    (first | refine goes_ Tryd.func70 (by kernel_rfl) rfl #[.int .i64 100, .int .i64 t117] (by rfl) rfl rfl (by first | rfl | (simp only [lma_, lmc_, lmn_]; first | done | rfl)) ?_ | refine RPW.cX_ Tryd.func70 (by kernel_rfl) rfl #[.int .i64 100, .int .i64 t117] (by rfl) rfl rfl rfl (by first | rfl | (simp only [lma_, lmc_, lmn_]; first | done | rfl)) ?_ | refine RPW.cY_ Tryd.func70 (by kernel_rfl) rfl #[.int .i64 100, .int .i64 t117] (by rfl) rfl rfl rfl (by first | rfl | (simp only [lma_, lmc_, lmn_]; first | done | rfl)) ?_)
    with_reducible refine (cP_.calls 100 t117 t118 _ A11.out).mono ?_
    rintro e w' ⟨rfl, ⟨nd, rfl⟩⟩
    refine ⟨_, rfl, ?_⟩
    refine hK.out _ _ trivial (fun hHeld => ?_)
    clear hK K
    refine norm_ (a' := ?_) ?_ ?_
    rotate_left
    ·show Act.put _ (some 25) _ = _
     simp only [Act.put, lsa_, ls0_, ls1_, i64_w, i32_w]
     rfl
    refine pu 7 26 #[t_,t_,t_,t_,t_,t_,t_,t_,t_,f_] HT_ ?_
    exact norm_ (by first | (simp only [bK_, Act.put, lsa_, ls0_, ls1_]; done) | (simp only [bK_, Act.put, lsa_, ls0_, ls1_]; rfl)) (hJ0_3_5_6_8 (.slice (some adz_v114) t113.length co25, adz_v114, gb119) _ ⟨(vz HL108_0.out), (nz HO107.out), (rz HO115.out), ⟨_, rfl⟩, (kz BK101.out), (kz BK119.out), GW119.out, GE119.out, NB0_119.out, NB119_0.out, NB101_119.out, NB119_101.out, (by repeat (first | (with_reducible first | exact HI0.out | apply IsS82.alloc | apply IsS82.drewN | apply IsS82.drew | apply IsS82.set_1 | apply IsS82.set_2 | refine IsS82.far ?_ NB0_101.out _ | refine IsS82.far ?_ NB0_119.out _) | exact HI0.out)), (by repeat (first | (with_reducible first | exact HK.out | apply ac_.set_ | apply ah_ | apply al_ | apply ai_ | refine aC_ ?_ GW101.out _ | refine aC_ ?_ GW119.out _) | exact HK.out)), (by repeat (first | (with_reducible first | exact HB.out | apply bA_ | apply bN_ | apply bD_ | refine af_ ?_ (IsS82.ge HI0.out) | refine af_ ?_ GE101.out | refine af_ ?_ GE119.out) | exact HB.out))⟩)
  ·skip
   rintro ⟨v114, adz_v114⟩ w23 ⟨h0_, h1_, h2_, h3_, h4_, h5_, h6_, h7_⟩
   have n0_ : Aside0 (Kd.V (Kd.int .i64) 2 w23 w.heap.size (fun k_ => some k_ ≠ (.slice (some ad108) t105.length co18 : Value).ownBlock ∧ some k_ ≠ (v114 : Value).ownBlock ∧ k_ ≠ g ∧ k_ ≠ gb101) (.slice (some ad109) (rd_L2 t105 t102).length c108_0) (rd_L2 t105 t102)) := ⟨h0_⟩
   have n1_ : Aside0 (Kd.N (Kd.slice 2 (Kd.int .i64)) 39 w23 w.heap.size (fun k_ => some k_ ≠ (v114 : Value).ownBlock ∧ k_ ≠ g ∧ k_ ≠ gb101) (.slice (some ad108) t105.length co18) t105) := ⟨h1_⟩
   have n2_ : Aside0 (Kd.R Kd.string 9 w23 w.heap.size (fun _ => True) v114 t113) := ⟨h2_⟩
   have n3_ : Aside0 (∃ c_, (v114 : Value) = .slice (some adz_v114) t113.length c_) := ⟨h3_⟩
   have n4_ : Aside0 (w23.heap[gb101]? = some (.cells #[.string (⟨#[]⟩ : ByteArray), .int .i64 0, .int .i64 0] 57 (0, 0))) := ⟨h4_⟩
   have n5_ : Aside0 (IsS82 w0 w23 g s0_0 t111 t112) := ⟨h5_⟩
   have n6_ : Aside0 (ac_ w w23 g none) := ⟨h6_⟩
   have n7_ : Aside0 (Below w0.heap.size w0 w23) := ⟨h7_⟩
   clear HO107
   clear HL108_0
   clear BK101
   clear HI0
   clear HK
   clear HB
   clear h0_ h1_ h2_ h3_ h4_ h5_ h6_ h7_
   have HL108_0 := n0_
   have HO107 := n1_
   have HO115 := n2_
   have HA_HO115 := n3_
   have BK101 := n4_
   have HI0 := n5_
   have HK := n6_
   have HB := n7_
   clear n0_ n1_ n2_ n3_ n4_ n5_ n6_ n7_
   have hHeld := trivial
   obtain ⟨co24, eo24⟩ := HA_HO115.out
   clear HA_HO115
   subst eo24
   refine norm_ (a' := ?_) ?_ ?_
   rotate_left
   ·simp only [bK_, Act.put, lsa_, ls0_, ls1_]
    rfl
   refine one_ (i := 8) (N := some 5) #[t_,t_,t_,t_,t_,t_,t_,t_,t_,f_] rfl rfl (cV_ HT_.out (by kernel_rfl)) (by decide) (fun K hK => ?_)
   refine box_step ?hg (N := 5) ?hd (cs := #[.string (⟨#[]⟩ : ByteArray), .int .i64 0, .int .i64 0]) (t := 57) ?hr ?_; (case hd => rfl); (case hg => rfl); (case hr => (go_simp; try rfl))
   intro gb119 hg w25 hbox hb
   have n0_ := Aside0.mk (Kd.N_below (Kd.N_elderB (nz HO107.out) gb119 (Nat.le_of_eq hg.symm)) hb)
   have n1_ := Aside0.mk (Kd.V_below (Kd.V_elderB (vz HL108_0.out) gb119 (Nat.le_of_eq hg.symm)) hb)
   have n2_ := Aside0.mk (Kd.aM_ (rz HO115.out) hb)
   have n3_ := Aside0.mk (IsS82.below (by repeat (first | (with_reducible first | exact HI0.out | apply IsS82.alloc | apply IsS82.drewN | apply IsS82.drew | apply IsS82.set_1 | apply IsS82.set_2 | refine IsS82.far ?_ NB0_101.out _) | exact HI0.out)) hb)
   have n4_ := Aside0.mk (aS_ (kz BK101.out) hb)
   have n5_ := Aside0.mk (ac_.trans (by repeat (first | (with_reducible first | exact HK.out | apply ac_.set_ | apply ah_ | apply al_ | apply ai_ | refine aC_ ?_ GW101.out _) | exact HK.out)) (ac_.of_below hb g none) (.inl rfl))
   have n6_ := Aside0.mk (ab_ (by repeat (first | (with_reducible first | exact HB.out | apply bA_ | apply bN_ | apply bD_ | refine af_ ?_ (IsS82.ge HI0.out) | refine af_ ?_ GE101.out) | exact HB.out)) hb)
   have n7_ := Aside0.mk (hbox)
   have n8_ := Aside0.mk ((by rw [hg]; exact (br_ (w := w) (g := g) (row := none) (by repeat (first | (with_reducible first | exact HK.out | apply ac_.set_ | apply ah_ | apply al_ | apply ai_ | refine aC_ ?_ GW101.out _) | exact HK.out))) : w.heap.size ≤ gb119))
   have n9_ := Aside0.mk ((Nat.le_trans HW0.out (by rw [hg]; exact (br_ (w := w) (g := g) (row := none) (by repeat (first | (with_reducible first | exact HK.out | apply ac_.set_ | apply ah_ | apply al_ | apply ai_ | refine aC_ ?_ GW101.out _) | exact HK.out))) : w.heap.size ≤ gb119) : w0.heap.size ≤ gb119))
   have n10_ := Aside0.mk ((by rw [hg]; exact Nat.ne_of_lt (de_ (kz BK101.out)) : gb101 ≠ gb119))
   have n11_ := Aside0.mk ((by rw [hg]; exact Nat.ne_of_gt (de_ (kz BK101.out)) : gb119 ≠ gb101))
   have n12_ := Aside0.mk ((by rw [hg]; exact Nat.ne_of_lt (IsS82.lt (show IsS82 w0 _ g s0_0 t111 t112 from by repeat (first | (with_reducible first | exact HI0.out | apply IsS82.alloc | apply IsS82.drewN | apply IsS82.drew | apply IsS82.set_1 | apply IsS82.set_2 | refine IsS82.far ?_ NB0_101.out _) | exact HI0.out))) : g ≠ gb119))
   have n13_ := Aside0.mk ((by rw [hg]; exact Nat.ne_of_gt (IsS82.lt (show IsS82 w0 _ g s0_0 t111 t112 from by repeat (first | (with_reducible first | exact HI0.out | apply IsS82.alloc | apply IsS82.drewN | apply IsS82.drew | apply IsS82.set_1 | apply IsS82.set_2 | refine IsS82.far ?_ NB0_101.out _) | exact HI0.out))) : gb119 ≠ g))
   clear HO107
   clear HL108_0
   clear HO115
   clear HI0
   clear BK101
   clear HK
   clear HB
   have HO107 := n0_
   have HL108_0 := n1_
   have HO115 := n2_
   have HI0 := n3_
   have BK101 := n4_
   have HK := n5_
   have HB := n6_
   have BK119 := n7_
   have GW119 := n8_
   have GE119 := n9_
   have NB101_119 := n10_
   have NB119_101 := n11_
   have NB0_119 := n12_
   have NB119_0 := n13_
   clear n0_ n1_ n2_ n3_ n4_ n5_ n6_ n7_ n8_ n9_ n10_ n11_ n12_ n13_
   clear hb hbox hg
   refine hK.out _ _ trivial (fun hHeld => ?_)
   clear hK K
   refine norm_ (a' := ?_) ?_ ?_
   rotate_left
   ·show Act.put _ (some 5) _ = _
    simp only [Act.put, lsa_, ls0_, ls1_, i64_w, i32_w]
    rfl
   exact norm_ (by first | (simp only [bK_, Act.put, lsa_, ls0_, ls1_]; done) | (simp only [bK_, Act.put, lsa_, ls0_, ls1_]; rfl)) (hJ0_3_5_6_8 (.slice (some adz_v114) t113.length co24, adz_v114, gb119) _ ⟨(vz (Kd.cG_ HL108_0.out (fun _ hk => ⟨hk.1.1, ⟨hk.1.2.1, ⟨hk.1.2.2.1, ⟨hk.1.2.2.2, hk.2⟩⟩⟩⟩))), (nz (Kd.cN_ HO107.out (fun _ hk => ⟨hk.1.1, ⟨hk.1.2.1, ⟨hk.1.2.2, hk.2⟩⟩⟩))), (rz HO115.out), ⟨_, rfl⟩, (kz BK101.out), (kz BK119.out), GW119.out, GE119.out, NB0_119.out, NB119_0.out, NB101_119.out, NB119_101.out, (by repeat (first | (with_reducible first | exact HI0.out | apply IsS82.alloc | apply IsS82.drewN | apply IsS82.drew | apply IsS82.set_1 | apply IsS82.set_2 | refine IsS82.far ?_ NB0_101.out _ | refine IsS82.far ?_ NB0_119.out _) | exact HI0.out)), (by repeat (first | (with_reducible first | exact HK.out | apply ac_.set_ | apply ah_ | apply al_ | apply ai_ | refine aC_ ?_ GW101.out _ | refine aC_ ?_ GW119.out _) | exact HK.out)), (by repeat (first | (with_reducible first | exact HB.out | apply bA_ | apply bN_ | apply bD_ | refine af_ ?_ (IsS82.ge HI0.out) | refine af_ ?_ GE101.out | refine af_ ?_ GE119.out) | exact HB.out))⟩)
 rintro ⟨v114, adz_v114, gb119⟩ w24 ⟨h0_, h1_, h2_, h3_, h4_, h5_, h6_, h7_, h8_, h9_, h10_, h11_, h12_, h13_, h14_⟩
 have n0_ : Aside0 (Kd.V (Kd.int .i64) 2 w24 w.heap.size (fun k_ => some k_ ≠ (.slice (some ad108) t105.length co18 : Value).ownBlock ∧ some k_ ≠ (v114 : Value).ownBlock ∧ k_ ≠ g ∧ k_ ≠ gb101 ∧ k_ ≠ gb119) (.slice (some ad109) (rd_L2 t105 t102).length c108_0) (rd_L2 t105 t102)) := ⟨h0_⟩
 have n1_ : Aside0 (Kd.N (Kd.slice 2 (Kd.int .i64)) 39 w24 w.heap.size (fun k_ => some k_ ≠ (v114 : Value).ownBlock ∧ k_ ≠ g ∧ k_ ≠ gb101 ∧ k_ ≠ gb119) (.slice (some ad108) t105.length co18) t105) := ⟨h1_⟩
 have n2_ : Aside0 (Kd.R Kd.string 9 w24 w.heap.size (fun _ => True) v114 t113) := ⟨h2_⟩
 have n3_ : Aside0 (∃ c_, (v114 : Value) = .slice (some adz_v114) t113.length c_) := ⟨h3_⟩
 have n4_ : Aside0 (w24.heap[gb101]? = some (.cells #[.string (⟨#[]⟩ : ByteArray), .int .i64 0, .int .i64 0] 57 (0, 0))) := ⟨h4_⟩
 have n5_ : Aside0 (w24.heap[gb119]? = some (.cells #[.string (⟨#[]⟩ : ByteArray), .int .i64 0, .int .i64 0] 57 (0, 0))) := ⟨h5_⟩
 have n6_ : Aside0 (w.heap.size ≤ gb119) := ⟨h6_⟩
 have n7_ : Aside0 (w0.heap.size ≤ gb119) := ⟨h7_⟩
 have n8_ : Aside0 (g ≠ gb119) := ⟨h8_⟩
 have n9_ : Aside0 (gb119 ≠ g) := ⟨h9_⟩
 have n10_ : Aside0 (gb101 ≠ gb119) := ⟨h10_⟩
 have n11_ : Aside0 (gb119 ≠ gb101) := ⟨h11_⟩
 have n12_ : Aside0 (IsS82 w0 w24 g s0_0 t111 t112) := ⟨h12_⟩
 have n13_ : Aside0 (ac_ w w24 g none) := ⟨h13_⟩
 have n14_ : Aside0 (Below w0.heap.size w0 w24) := ⟨h14_⟩
 clear HO107
 clear HL108_0
 clear BK101
 clear HI0
 clear HK
 clear HB
 clear h0_ h1_ h2_ h3_ h4_ h5_ h6_ h7_ h8_ h9_ h10_ h11_ h12_ h13_ h14_
 have HL108_0 := n0_
 have HO107 := n1_
 have HO115 := n2_
 have HA_HO115 := n3_
 have BK101 := n4_
 have BK119 := n5_
 have GW119 := n6_
 have GE119 := n7_
 have NB0_119 := n8_
 have NB119_0 := n9_
 have NB101_119 := n10_
 have NB119_101 := n11_
 have HI0 := n12_
 have HK := n13_
 have HB := n14_
 clear n0_ n1_ n2_ n3_ n4_ n5_ n6_ n7_ n8_ n9_ n10_ n11_ n12_ n13_ n14_
 have hHeld := trivial
 obtain ⟨co25, eo25⟩ := HA_HO115.out
 clear HA_HO115
 subst eo25
 refine norm_ (a' := ?_) ?_ ?_
 rotate_left
 ·simp only [bK_, Act.put, lsa_, ls0_, ls1_]
  rfl
 refine one_ (i := 9) (N := none) #[t_,t_,t_,t_,t_,t_,t_,t_,t_,t_] rfl rfl (cV_ HT_.out (by kernel_rfl)) (by decide) (fun K hK => ?_)
 have hs26 : w24.cell? ⟨gb119, 0, none⟩ = some (.string (⟨#[]⟩ : ByteArray)) := (aO_ BK119.out 0).trans rfl
 have hfs26 := bJ_ BK119.out 0
 have hns26_0 := NB101_119.out
 have hms26_0 := NB119_101.out
 have hs27 : w24.cell? ⟨gb119, 1, none⟩ = some (.int .i64 0) := (aO_ BK119.out 1).trans rfl
 have hfs27 := bJ_ BK119.out 1
 have hns27_0 := NB101_119.out
 have hms27_0 := NB119_101.out
 have hs28 : w24.cell? ⟨gb119, 2, none⟩ = some (.int .i64 0) := (aO_ BK119.out 2).trans rfl
 have hfs28 := bJ_ BK119.out 2
 have hns28_0 := NB101_119.out
 have hms28_0 := NB119_101.out
 refine skip_ (w1 := ?_) (by rfl) rfl ?_ ?_
 rotate_left
 ·go_simp
  rfl
 refine hK.out _ _ trivial (fun hHeld => ?_)
 clear hK K
 refine done_ (dH_ HT_.out (by kernel_rfl)) ?_
 try go_wp2_with (first | ((with_reducible refine as_ (f := 46) rfl ?_); refine bw_ (some 28) rfl rfl Tryd.func46 (by kernel_rfl) rfl #[.pointer (some ⟨g, 0, none⟩), .int .i64 180] rfl (by first | rfl | (simp only [lma_, lmc_, lmn_]; first | done | rfl)) ?_; (with_reducible refine (aB_.calls g s0_0 t111 t112 180 t120 t121 t122 w0 _ ?side1 ?side2 A12.out).mono ?_); (case side1 => repeat (first | (with_reducible first | exact HI0.out | apply IsS82.alloc | apply IsS82.drewN | apply IsS82.drew | apply IsS82.set_1 | apply IsS82.set_2 | refine IsS82.far ?_ NB0_101.out _ | refine IsS82.far ?_ NB0_119.out _) | exact HI0.out)); (case side2 => repeat (first | (with_reducible first | exact HB.out | apply bA_ | apply bN_ | apply bD_ | refine af_ ?_ (IsS82.ge HI0.out) | refine af_ ?_ GE101.out | refine af_ ?_ GE119.out) | exact HB.out)); rintro e w29 ⟨rfl, hi, hb, hk⟩; refine ⟨_, rfl, ?_⟩; replace BK101 := Aside0.mk (ac_.blk hk (g' := gb101) (o := .cells #[.string (⟨#[]⟩ : ByteArray), .int .i64 0, .int .i64 0] 57 (0, 0)) (by exact kf (kf (kf (kz BK101.out) NB101_119.out) NB101_119.out) NB101_119.out) NB101_0.out (by simp)); replace HO107 := Aside0.mk (Kd.cN_ (Kd.N_keep (Kd.cN_ (ok := fun k_ => (some k_ ≠ (.slice (some adz_v114) t113.length co25 : Value).ownBlock ∧ (k_ ≠ g ∧ (k_ ≠ gb101 ∧ k_ ≠ gb119)))) (nz (Kd.cN_ (Kd.N_far (p := ⟨gb119, 2, none⟩) (Kd.N_far (p := ⟨gb119, 1, none⟩) (Kd.N_far (p := ⟨gb119, 0, none⟩) (Kd.cN_ HO107.out (fun k_ hk => (⟨hk, hk.2.2.2⟩ : _ ∧ k_ ≠ gb119))) (fun _ hk => hk.2) (.string (rdOf ByteArray.empty t113 t102))) (fun _ hk => hk.2) (.int .i64 t118)) (fun _ hk => hk.2) (.int .i64 0)) (fun _ h_ => h_.1))) (fun k_ hk_ => (⟨hk_, hk_.2.1⟩ : _ ∧ k_ ≠ g))) hk (fun _ h => h.2)) (fun _ h => h.1)); replace HL108_0 := Aside0.mk (Kd.cG_ (Kd.V_keep (Kd.cG_ (ok := fun k_ => (some k_ ≠ (.slice (some ad108) t105.length co18 : Value).ownBlock ∧ (some k_ ≠ (.slice (some adz_v114) t113.length co25 : Value).ownBlock ∧ (k_ ≠ g ∧ (k_ ≠ gb101 ∧ k_ ≠ gb119))))) (vz (Kd.cG_ (Kd.V_far (p := ⟨gb119, 2, none⟩) (Kd.V_far (p := ⟨gb119, 1, none⟩) (Kd.V_far (p := ⟨gb119, 0, none⟩) (Kd.cG_ HL108_0.out (fun k_ hk => (⟨hk, hk.2.2.2.2⟩ : _ ∧ k_ ≠ gb119))) (fun _ hk => hk.2) (.string (rdOf ByteArray.empty t113 t102))) (fun _ hk => hk.2) (.int .i64 t118)) (fun _ hk => hk.2) (.int .i64 0)) (fun _ h_ => h_.1))) (fun k_ hk_ => (⟨hk_, hk_.2.2.1⟩ : _ ∧ k_ ≠ g))) hk (fun _ h => h.2)) (fun _ h => h.1)); replace HO115 := Aside0.mk (Kd.aT_ (Kd.df_ (IsS82.apart (show IsS82 w0 _ g s0_0 t111 t112 from by repeat (first | (with_reducible first | exact HI0.out | apply IsS82.alloc | apply IsS82.drewN | apply IsS82.drew | apply IsS82.set_1 | apply IsS82.set_2 | refine IsS82.far ?_ NB0_101.out _ | refine IsS82.far ?_ NB0_119.out _) | exact HI0.out)) (rz (Kd.aT_ (Kd.R_far (p := ⟨gb119, 2, none⟩) (Kd.R_far (p := ⟨gb119, 1, none⟩) (Kd.R_far (p := ⟨gb119, 0, none⟩) (Kd.cs_ HO115.out BK119.out (by decide)) (fun _ hk => hk.2) (.string (rdOf ByteArray.empty t113 t102))) (fun _ hk => hk.2) (.int .i64 t118)) (fun _ hk => hk.2) (.int .i64 0)) (fun _ h_ => h_.1))) (by decide)) hk (fun _ h => h.2)) (fun _ h => h.1)); replace BK119 := Aside0.mk (ac_.blk hk (g' := gb119) (o := .cells #[.string (rdOf ByteArray.empty t113 t102), .int .i64 t118, .int .i64 0] 57 (0, 0)) (by exact kj3_2 (kj3_1 (kj3_0 (kz BK119.out)))) NB119_0.out (by simp)); replace HK := Aside0.mk (ac_.trans (by repeat (first | (with_reducible first | exact HK.out | apply ac_.set_ | apply ah_ | apply al_ | apply ai_ | refine aC_ ?_ GW101.out _ | refine aC_ ?_ GW119.out _) | exact HK.out)) hk (.inl rfl)); replace HB := Aside0.mk (hb); replace HI0 := Aside0.mk (hi); (try clear hb)) | ((with_reducible refine aL_ (N := 32) rfl ?_); refine Kd.R_lit (Kd.int .i64) _ 2 ?hg (N := 32) ?hd (xs := ([t120, t120, 0, 90, 45] : List Int)) (inner := [.int .i64 t120, .int .i64 t120, .int .i64 0, .int .i64 90, .int .i64 45]) (ok := fun _ => True) (okp := fun _ => True) ?hr ?hp (fun _ hk => hk) trivial (Below.refl _ _) (Nat.le_refl _) (by simp) ?_; (case hd => rfl); (case hg => rfl); (case hr => (go_simp; try rfl)); (case hp => exact (Reps.one (show Kd.M (Kd.int .i64) _ _ _ t120 [.int .i64 t120] from rfl) (Reps.one (show Kd.M (Kd.int .i64) _ _ _ t120 [.int .i64 t120] from rfl) (Reps.one (show Kd.M (Kd.int .i64) _ _ _ 0 [.int .i64 0] from rfl) (Reps.one (show Kd.M (Kd.int .i64) _ _ _ 90 [.int .i64 90] from rfl) (Reps.one (show Kd.M (Kd.int .i64) _ _ _ 45 [.int .i64 45] from rfl) (Reps.none _ _))))))); intro v124 w30 ho31 hb hg_ hnew_; clear hg_ hnew_; (first | rw [← Ny123.out] at ho31 | (simp only [Int.reduceToNat] at ho31; rw [← Ny123.out] at ho31)); replace HO107 := Aside0.mk (Kd.N_elder' (nz HO107.out) (Kd.bh_ ho31) hb); replace HL108_0 := Aside0.mk (Kd.dB_ (vz HL108_0.out) (Kd.bh_ ho31) hb); replace HO115 := Aside0.mk (Kd.aM_ (rz HO115.out) hb); have HO125 := Aside0.mk (Kd.bi_ ho31 (br_ (w := w) (g := g) (row := none) (by repeat (first | (with_reducible first | exact HK.out | apply ac_.set_ | apply ah_ | apply al_ | apply ai_ | refine aC_ ?_ GW101.out _ | refine aC_ ?_ GW119.out _) | exact HK.out)))); replace BK101 := Aside0.mk (aS_ (kz BK101.out) hb); replace BK119 := Aside0.mk (aS_ (kz BK119.out) hb); replace HK := Aside0.mk (ac_.trans (by repeat (first | (with_reducible first | exact HK.out | apply ac_.set_ | apply ah_ | apply al_ | apply ai_ | refine aC_ ?_ GW101.out _ | refine aC_ ?_ GW119.out _) | exact HK.out)) (ac_.of_below hb g none) (.inl rfl)); replace HB := Aside0.mk (ab_ (by repeat (first | (with_reducible first | exact HB.out | apply bA_ | apply bN_ | apply bD_ | refine af_ ?_ (IsS82.ge HI0.out) | refine af_ ?_ GE101.out | refine af_ ?_ GE119.out) | exact HB.out)) hb); replace HI0 := Aside0.mk (IsS82.below (by repeat (first | (with_reducible first | exact HI0.out | apply IsS82.alloc | apply IsS82.drewN | apply IsS82.drew | apply IsS82.set_1 | apply IsS82.set_2 | refine IsS82.far ?_ NB0_101.out _ | refine IsS82.far ?_ NB0_119.out _) | exact HI0.out)) hb); clear hb ho31; obtain ⟨Ao32, co32, eo32⟩ := Kd.bo_ HO125.out; subst eo32) | ((with_reducible refine as_ (f := 72) rfl ?_); refine bw_ (some 33) rfl rfl Tryd.func72 (by kernel_rfl) rfl #[.pointer (some ⟨g, 0, none⟩), .slice Ao32 y123.length co32] rfl (by first | rfl | (simp only [lma_, lmc_, lmn_]; first | done | rfl)) ?_; (with_reducible refine (cn_.calls g s0_0 t121 t122 _ _ y123 t126 t127 t128 w0 _ ?side1 ?side2 ?side3 ?side4 ?side5 A13.out).mono ?_); (case side1 => repeat (first | (with_reducible first | exact HI0.out | apply IsS82.alloc | apply IsS82.drewN | apply IsS82.drew | apply IsS82.set_1 | apply IsS82.set_2 | refine IsS82.far ?_ NB0_101.out _ | refine IsS82.far ?_ NB0_119.out _) | exact HI0.out)); (case side2 => repeat (first | (with_reducible first | exact HB.out | apply bA_ | apply bN_ | apply bD_ | refine af_ ?_ (IsS82.ge HI0.out) | refine af_ ?_ GE101.out | refine af_ ?_ GE119.out) | exact HB.out)); (case side3 => exact cz (Kd.aj_ HO125.out).2.2); (case side4 => exact (Kd.aj_ HO125.out).2.1); (case side5 => exact far_slice (IsS82.own_ne HI0.out HO125.out (by decide))); rintro e w33 ⟨rfl, hi, hb, hk⟩; refine ⟨_, rfl, ?_⟩; replace BK101 := Aside0.mk (ac_.blk hk (g' := gb101) (o := .cells #[.string (⟨#[]⟩ : ByteArray), .int .i64 0, .int .i64 0] 57 (0, 0)) (kz BK101.out) NB101_0.out (by simp)); replace HO107 := Aside0.mk (Kd.cN_ (Kd.N_keep (Kd.cN_ (ok := fun k_ => ((some k_ ≠ (.slice (some adz_v114) t113.length co25 : Value).ownBlock ∧ (k_ ≠ g ∧ (k_ ≠ gb101 ∧ k_ ≠ gb119))) ∧ some k_ ≠ (.slice Ao32 y123.length co32 : Value).ownBlock)) (nz HO107.out) (fun k_ hk_ => (⟨hk_, hk_.1.2.1⟩ : _ ∧ k_ ≠ g))) hk (fun _ h => h.2)) (fun _ h => h.1)); replace HL108_0 := Aside0.mk (Kd.cG_ (Kd.V_keep (Kd.cG_ (ok := fun k_ => ((some k_ ≠ (.slice (some ad108) t105.length co18 : Value).ownBlock ∧ (some k_ ≠ (.slice (some adz_v114) t113.length co25 : Value).ownBlock ∧ (k_ ≠ g ∧ (k_ ≠ gb101 ∧ k_ ≠ gb119)))) ∧ some k_ ≠ (.slice Ao32 y123.length co32 : Value).ownBlock)) (vz HL108_0.out) (fun k_ hk_ => (⟨hk_, hk_.1.2.2.1⟩ : _ ∧ k_ ≠ g))) hk (fun _ h => h.2)) (fun _ h => h.1)); replace HO115 := Aside0.mk (Kd.aT_ (Kd.df_ (IsS82.apart (show IsS82 w0 _ g s0_0 t121 t122 from by repeat (first | (with_reducible first | exact HI0.out | apply IsS82.alloc | apply IsS82.drewN | apply IsS82.drew | apply IsS82.set_1 | apply IsS82.set_2 | refine IsS82.far ?_ NB0_101.out _ | refine IsS82.far ?_ NB0_119.out _) | exact HI0.out)) (rz HO115.out) (by decide)) hk (fun _ h => h.2)) (fun _ h => h.1)); replace BK119 := Aside0.mk (ac_.blk hk (g' := gb119) (o := .cells #[.string (rdOf ByteArray.empty t113 t102), .int .i64 t118, .int .i64 0] 57 (0, 0)) (kz BK119.out) NB119_0.out (by simp)); replace HO125 := Aside0.mk (Kd.aT_ (Kd.df_ (IsS82.apart (show IsS82 w0 _ g s0_0 t121 t122 from by repeat (first | (with_reducible first | exact HI0.out | apply IsS82.alloc | apply IsS82.drewN | apply IsS82.drew | apply IsS82.set_1 | apply IsS82.set_2 | refine IsS82.far ?_ NB0_101.out _ | refine IsS82.far ?_ NB0_119.out _) | exact HI0.out)) (rz HO125.out) (by decide)) hk (fun _ h => h.2)) (fun _ h => h.1)); replace HK := Aside0.mk (ac_.trans (by repeat (first | (with_reducible first | exact HK.out | apply ac_.set_ | apply ah_ | apply al_ | apply ai_ | refine aC_ ?_ GW101.out _ | refine aC_ ?_ GW119.out _) | exact HK.out)) hk (.inl rfl)); replace HB := Aside0.mk (hb); replace HI0 := Aside0.mk (hi); (try clear hb); have hnb34 := NB119_101.out; have hnc34 := NB101_119.out; have hnb35 := NB119_0.out; have hnc35 := NB0_119.out; obtain ⟨hcz36_0, hcz36_1, hcz36_2⟩ := cz3_ BK119.out; obtain ⟨hfz36_0, hfz36_1, hfz36_2⟩ := fz3_ BK119.out; have hnb37 := NB101_0.out; have hnc37 := NB0_101.out; obtain ⟨hcz38_0, hcz38_1, hcz38_2⟩ := cz3_ BK101.out; obtain ⟨hfz38_0, hfz38_1, hfz38_2⟩ := fz3_ BK101.out))
 refine bodyPost_ret (results_cell_row rfl _ _ gb101 57 #[.string (rdOf ByteArray.empty t113 t102), .int .i64 t118, .int .i64 t126] (0, 0) _ rfl (by exact kj3_2 (kj3_1 (kj3_0 (kf (kz BK101.out) NB101_119.out)))) Tryd.underlying57 rfl (by kernel_rfl)) rfl ?_
 exact ⟨by first | rfl | (simp [*, ap_, ao_] <;> rfl), by repeat (first | (with_reducible first | exact HI0.out | apply IsS82.alloc | apply IsS82.drewN | apply IsS82.drew | apply IsS82.set_1 | apply IsS82.set_2 | refine IsS82.far ?_ NB0_101.out _ | refine IsS82.far ?_ NB0_119.out _) | exact HI0.out), by repeat (first | (with_reducible first | exact HB.out | apply bA_ | apply bN_ | apply bD_ | refine af_ ?_ (IsS82.ge HI0.out) | refine af_ ?_ GE101.out | refine af_ ?_ GE119.out) | exact HB.out), by repeat (first | (with_reducible first | exact HK.out | apply ac_.set_ | apply ah_ | apply al_ | apply ai_ | refine aC_ ?_ GW101.out _ | refine aC_ ?_ GW119.out _) | exact HK.out)⟩
def ay_.l0 : Nat → List ByteArray → List (S59) → Int → List Int → Int → Int → Option ((List (S59)) × Int × Int)
 | 0, _, _, _, _, _, _ => none
 | k + 1, x3, x4, x5, x1000, x1001, x1002 => if x5 < 5 then ((cC_.f x1000 x1001 x1002 2).bind fun bt107 => (if bt107.1 = true then (if 0 ≤ x5 then (if x5 < (x3.length : Int) then ((bq_.f x1000 bt107.2.1 bt107.2.2).bind fun bt111 => (if x4.length < 2932031007402 then (ay_.l0 k x3 (x4 ++ [(⟨rdOf ByteArray.empty x3 x5, (⟨bt111.1, bt111.2.1, bt111.2.2.1⟩ : S57)⟩ : S59)]) (wrap64 (x5 + 1)) x1000 bt111.2.2.2.1 bt111.2.2.2.2) else (none))) else (none)) else (none)) else (ay_.l0 k x3 x4 (wrap64 (x5 + 1)) x1000 bt107.2.1 bt107.2.2))) else (some (x4, x1001, x1002))
def ay_.f (k : Nat) (s0_0 : List Int) (s0_1 : Int) (s0_2 : Int) : Option ((List (S59)) × Int × Int) := ay_.l0 k (([(⟨#[97]⟩ : ByteArray), (⟨#[98]⟩ : ByteArray), (⟨#[99]⟩ : ByteArray), (⟨#[100]⟩ : ByteArray), (⟨#[101]⟩ : ByteArray)] : List ByteArray)) (([] : List (S59))) 0 s0_0 s0_1 s0_2
def ay_.T7 : Bool × List (List Nat × List Nat) := (true, [([], []), ([], []), ([], []), ([1, 2], [1, 2]), ([3], [3]), ([], []), ([5], [5]), ([4, 6], [4, 6]), ([7], [7]), ([0, 8, 6], [0, 8]), ([9, 9, 0, 1, 2, 3, 4, 5, 6, 7, 8, 9], [0, 9])])
def ay_.B7 : List Nat := [0, 0, 0, 6, 14, 0, 32, 126, 254, 511, 1023]
theorem ay_.tab7 : rtab .any (opsOf Tryd.f22 7) = ay_.T7 := by kernel_rfl
theorem ay_.bits7 : dz_ ay_.T7.2 ay_.B7 = true := by kernel_rfl
set_option maxHeartbeats 8000000 in
set_option maxRecDepth 100000 in
theorem ay_.calls (k : Nat) (g : Nat) (s0_0 : List Int) (s0_1 : Int) (s0_2 : Int) (r1 : List (S59)) (r2 : Int) (r3 : Int) (w0 w : World) (hI : IsS82 w0 w g s0_0 s0_1 s0_2) (hB : Below w0.heap.size w0 w) (h : ay_.f k s0_0 s0_1 s0_2 = some (r1, r2, r3)) :
  Calls Tryd.prog 22 #[.pointer (some ⟨g, 0, none⟩)] w fun e w' => ∃ v0_ : Value, e = .returned (v0_) ∧ Kd.R k59 59 w' w.heap.size (fun _ => True) v0_ r1 ∧ IsS82 w0 w' g s0_0 r2 r3 ∧ Below w0.heap.size w0 w' ∧ ac_ w w' g none := by
 have hu59 := Tryd.underlying59
 have HI0 := Aside0.mk hI
 have HK := Aside0.mk (ac_.refl w g none)
 have HL := Aside0.mk hB.size
 clear hI
 have HW0 := Aside0.mk hB.size
 have HB := Aside0.mk hB
 clear hB
 have H : (ay_.l0 k (([(⟨#[97]⟩ : ByteArray), (⟨#[98]⟩ : ByteArray), (⟨#[99]⟩ : ByteArray), (⟨#[100]⟩ : ByteArray), (⟨#[101]⟩ : ByteArray)] : List ByteArray)) (([] : List (S59))) 0 s0_0 s0_1 s0_2) = some (r1, r2, r3) := h
 clear h
 obtain ⟨y101, hy101⟩ : ∃ y_ : List ByteArray, y_ = (([(⟨#[97]⟩ : ByteArray), (⟨#[98]⟩ : ByteArray), (⟨#[99]⟩ : ByteArray), (⟨#[100]⟩ : ByteArray), (⟨#[101]⟩ : ByteArray)] : List ByteArray)) := ⟨_, rfl⟩
 replace H : (ay_.l0 k y101 (([] : List (S59))) 0 s0_0 s0_1 s0_2) = some (r1, r2, r3) := by first | (rw [hy101]; with_reducible exact H) | (have H2_ := (Option.bind_some _ _).symm.trans H; rw [hy101]; with_reducible exact H2_) | (have H2_ := (Option.bind_some _ _).symm.trans H; with_reducible exact H2_) | with_reducible exact H | (rw [hy101]; exact H) | exact H
 have Ny101 := Aside0.mk hy101
 clear hy101
 obtain ⟨y104, hy104⟩ : ∃ y_ : List (S59), y_ = (([] : List (S59))) := ⟨_, rfl⟩
 replace H : (ay_.l0 k y101 y104 0 s0_0 s0_1 s0_2) = some (r1, r2, r3) := by first | (rw [hy104]; with_reducible exact H) | (have H2_ := (Option.bind_some _ _).symm.trans H; rw [hy104]; with_reducible exact H2_) | (have H2_ := (Option.bind_some _ _).symm.trans H; with_reducible exact H2_) | with_reducible exact H | (rw [hy104]; exact H) | exact H
 have Ny104 := Aside0.mk hy104
 clear hy104
 have H' := Aside0.mk H
 clear H
 go_enter Tryd.func22, Tryd.ntmps22
 go_wp2_with (first | ((with_reducible refine aL_ (N := 6) rfl ?_); refine Kd.R_lit Kd.string _ 9 ?hg (N := 6) ?hd (xs := ([(⟨#[97]⟩ : ByteArray), (⟨#[98]⟩ : ByteArray), (⟨#[99]⟩ : ByteArray), (⟨#[100]⟩ : ByteArray), (⟨#[101]⟩ : ByteArray)] : List ByteArray)) (inner := [.string (⟨#[97]⟩ : ByteArray), .string (⟨#[98]⟩ : ByteArray), .string (⟨#[99]⟩ : ByteArray), .string (⟨#[100]⟩ : ByteArray), .string (⟨#[101]⟩ : ByteArray)]) (ok := fun _ => True) (okp := fun _ => True) ?hr ?hp (fun _ hk => hk) trivial (Below.refl _ _) (Nat.le_refl _) (by simp) ?_; (case hd => rfl); (case hg => rfl); (case hr => (go_simp; try rfl)); (case hp => exact (Reps.one (show Kd.M Kd.string _ _ _ (⟨#[97]⟩ : ByteArray) [.string (⟨#[97]⟩ : ByteArray)] from rfl) (Reps.one (show Kd.M Kd.string _ _ _ (⟨#[98]⟩ : ByteArray) [.string (⟨#[98]⟩ : ByteArray)] from rfl) (Reps.one (show Kd.M Kd.string _ _ _ (⟨#[99]⟩ : ByteArray) [.string (⟨#[99]⟩ : ByteArray)] from rfl) (Reps.one (show Kd.M Kd.string _ _ _ (⟨#[100]⟩ : ByteArray) [.string (⟨#[100]⟩ : ByteArray)] from rfl) (Reps.one (show Kd.M Kd.string _ _ _ (⟨#[101]⟩ : ByteArray) [.string (⟨#[101]⟩ : ByteArray)] from rfl) (Reps.none _ _))))))); intro v102 w2 ho3 hb hg_ hnew_; clear hg_ hnew_; (first | rw [← Ny101.out] at ho3 | (simp only [Int.reduceToNat] at ho3; rw [← Ny101.out] at ho3)); have HO103 := Aside0.mk (Kd.bi_ ho3 (br_ (w := w) (g := g) (row := none) (by repeat (first | (with_reducible first | exact HK.out | apply ac_.set_ | apply ah_ | apply al_ | apply ai_) | exact HK.out)))); replace HK := Aside0.mk (ac_.trans (by repeat (first | (with_reducible first | exact HK.out | apply ac_.set_ | apply ah_ | apply al_ | apply ai_) | exact HK.out)) (ac_.of_below hb g none) (.inl rfl)); replace HB := Aside0.mk (ab_ (by repeat (first | (with_reducible first | exact HB.out | apply bA_ | apply bN_ | apply bD_ | refine af_ ?_ (IsS82.ge HI0.out)) | exact HB.out)) hb); replace HI0 := Aside0.mk (IsS82.below (by repeat (first | (with_reducible first | exact HI0.out | apply IsS82.alloc | apply IsS82.drewN | apply IsS82.drew | apply IsS82.set_1 | apply IsS82.set_2) | exact HI0.out)) hb); clear hb ho3) | ((with_reducible refine aL_ (N := 7) rfl ?_); refine Kd.R_lit k59 _ 59 ?hg (N := 7) ?hd (xs := ([] : List (S59))) (inner := []) (ok := fun _ => True) (okp := fun _ => True) ?hr ?hp (fun _ hk => hk) trivial (Below.refl _ _) (Nat.le_refl _) (by simp) ?_; (case hd => rfl); (case hg => rfl); (case hr => (go_simp; try rfl)); (case hp => exact (Reps.none _ _)); intro v105 w4 ho5 hb hg_ hnew_; clear hg_ hnew_; (first | rw [← Ny104.out] at ho5 | (simp only [Int.reduceToNat] at ho5; rw [← Ny104.out] at ho5)); replace HO103 := Aside0.mk (Kd.aM_ (rz HO103.out) hb); have HO106 := Aside0.mk (Kd.bi_ ho5 (br_ (w := w) (g := g) (row := none) (by repeat (first | (with_reducible first | exact HK.out | apply ac_.set_ | apply ah_ | apply al_ | apply ai_) | exact HK.out)))); replace HK := Aside0.mk (ac_.trans (by repeat (first | (with_reducible first | exact HK.out | apply ac_.set_ | apply ah_ | apply al_ | apply ai_) | exact HK.out)) (ac_.of_below hb g none) (.inl rfl)); replace HB := Aside0.mk (ab_ (by repeat (first | (with_reducible first | exact HB.out | apply bA_ | apply bN_ | apply bD_ | refine af_ ?_ (IsS82.ge HI0.out)) | exact HB.out)) hb); replace HI0 := Aside0.mk (IsS82.below (by repeat (first | (with_reducible first | exact HI0.out | apply IsS82.alloc | apply IsS82.drewN | apply IsS82.drew | apply IsS82.set_1 | apply IsS82.set_2) | exact HI0.out)) hb); clear hb ho5))
 (try simp only [Act.put, lsa_, ls0_, ls1_])
 go_loopg [4, 5] k (fun kq v4 v5 w' => ∃ (x4_1 : List (S59)) (x5_1 : Int) (x1001_1 : Int) (x1002_1 : Int), v5 = .int .i64 x5_1 ∧ Aside0 (ay_.l0 kq y101 x4_1 x5_1 s0_0 x1001_1 x1002_1 = some (r1, r2, r3)) ∧ Aside0 (kq ≤ k) ∧ Aside0 (Kd.R Kd.string 9 w' w.heap.size (fun _ => True) v102 y101) ∧ Aside0 (Kd.R k59 59 w' w.heap.size (fun _ => True) v4 x4_1) ∧ Aside0 (IsS82 w0 w' g s0_0 x1001_1 x1002_1) ∧ Aside0 (ac_ w w' g none) ∧ Aside0 (Below w0.heap.size w0 w'))
 case atStart => exact ⟨(y104), (0), (s0_1), (s0_2), (by first | rfl | (simp; done) | (simp [*]; done)), H', ⟨Nat.le_refl _⟩, ⟨rz HO103.out⟩, ⟨rz HO106.out⟩, ⟨by repeat (first | (with_reducible first | exact HI0.out | apply IsS82.alloc | apply IsS82.drewN | apply IsS82.drew | apply IsS82.set_1 | apply IsS82.set_2) | exact HI0.out)⟩, ⟨by repeat (first | (with_reducible first | exact HK.out | apply ac_.set_ | apply ah_ | apply al_ | apply ai_) | exact HK.out)⟩, ⟨by repeat (first | (with_reducible first | exact HB.out | apply bA_ | apply bN_ | apply bD_ | refine af_ ?_ (IsS82.ge HI0.out)) | exact HB.out)⟩⟩
 case round =>
  clear H'
  obtain ⟨x4_1, x5_1, x1001_1, x1002_1, rfl, HA, HK1, HO_3, HO_4, HI0, HK, HB⟩ := hrel
  cases gk with
  | zero => exact absurd HA.out (by simp [ay_.l0])
  | succ k1 =>
   have H := HA.out
   clear HA
   simp only [ay_.l0] at H
   by_cases c6 : x5_1 < 5
   rotate_left
   ·rw [if_neg c6] at H
    have c6b0 : decide (x5_1 < 5) = false := decide_eq_false c6
    clear c6
    simp only [Option.some.injEq, Prod.mk.injEq] at H
    obtain ⟨rfl, rfl, rfl⟩ := H
    go_wp2
    go_ret
    exact ⟨_, by first | rfl | (simp [*, ap_, ao_] <;> rfl), rz HO_4.out, by repeat (first | (with_reducible first | exact HI0.out | apply IsS82.alloc | apply IsS82.drewN | apply IsS82.drew | apply IsS82.set_1 | apply IsS82.set_2) | exact HI0.out), by repeat (first | (with_reducible first | exact HB.out | apply bA_ | apply bN_ | apply bD_ | refine af_ ?_ (IsS82.ge HI0.out)) | exact HB.out), by repeat (first | (with_reducible first | exact HK.out | apply ac_.set_ | apply ah_ | apply al_ | apply ai_) | exact HK.out)⟩
   rw [if_pos c6] at H
   have c6b0 : decide (x5_1 < 5) = true := decide_eq_true c6
   clear c6
   replace H := Option.bind_eq_some_iff.mp H
   obtain ⟨⟨t107, t108, t109⟩, A70, H⟩ := H
   (try dsimp only at H)
   have A7 := Aside0.mk A70
   clear A70
   have HC8 := Aside0.mk H
   clear H
   go_upto_if 13 with (first | ((with_reducible refine as_ (f := 48) rfl ?_); refine bw_ (some 13) rfl rfl Tryd.func48 (by kernel_rfl) rfl #[.pointer (some ⟨g, 0, none⟩), .int .i64 2] rfl (by first | rfl | (simp only [lma_, lmc_, lmn_]; first | done | rfl)) ?_; (with_reducible refine (cC_.calls g s0_0 x1001_1 x1002_1 2 t107 t108 t109 w0 _ ?side1 ?side2 A7.out).mono ?_); (case side1 => repeat (first | (with_reducible first | exact HI0.out | apply IsS82.alloc | apply IsS82.drewN | apply IsS82.drew | apply IsS82.set_1 | apply IsS82.set_2) | exact HI0.out)); (case side2 => repeat (first | (with_reducible first | exact HB.out | apply bA_ | apply bN_ | apply bD_ | refine af_ ?_ (IsS82.ge HI0.out)) | exact HB.out)); rintro e w9 ⟨rfl, hi, hb, hk⟩; refine ⟨_, rfl, ?_⟩; replace HO_3 := Aside0.mk (Kd.aT_ (Kd.df_ (IsS82.apart (show IsS82 w0 _ g s0_0 x1001_1 x1002_1 from by repeat (first | (with_reducible first | exact HI0.out | apply IsS82.alloc | apply IsS82.drewN | apply IsS82.drew | apply IsS82.set_1 | apply IsS82.set_2) | exact HI0.out)) (rz HO_3.out) (by decide)) hk (fun _ h => h.2)) (fun _ h => h.1)); replace HO_4 := Aside0.mk (Kd.aT_ (Kd.df_ (IsS82.apart (show IsS82 w0 _ g s0_0 x1001_1 x1002_1 from by repeat (first | (with_reducible first | exact HI0.out | apply IsS82.alloc | apply IsS82.drewN | apply IsS82.drew | apply IsS82.set_1 | apply IsS82.set_2) | exact HI0.out)) (rz HO_4.out) (by decide)) hk (fun _ h => h.2)) (fun _ h => h.1)); replace HK := Aside0.mk (ac_.trans (by repeat (first | (with_reducible first | exact HK.out | apply ac_.set_ | apply ah_ | apply al_ | apply ai_) | exact HK.out)) hk (.inl rfl)); replace HB := Aside0.mk (hb); replace HI0 := Aside0.mk (hi); (try clear hb)))
   (try simp only [Act.put, lsa_, ls0_, ls1_])
   have H := HC8.out
   clear HC8
   by_cases c10 : t107 = true
   rotate_left
   ·replace c10 := Bool.eq_false_iff.mpr c10
    subst c10
    have H1 : (ay_.l0 k1 y101 x4_1 (wrap64 (x5_1 + 1)) s0_0 t108 t109) = some (r1, r2, r3) := by rw [if_neg (show ¬ (false = true) by decide)] at H; exact H
    clear H
    have H := H1
    clear H1
    have H' := Aside0.mk H
    clear H
    go_wp2
    go_roundg k1
    case measure => have := HK1.out; omega
    case rel => exact ⟨(x4_1), (wrap64 (x5_1 + 1)), (t108), (t109), (by first | rfl | (simp; done) | (simp [*]; done)), H', ⟨by have := HK1.out; omega⟩, ⟨rz HO_3.out⟩, ⟨rz HO_4.out⟩, ⟨by repeat (first | (with_reducible first | exact HI0.out | apply IsS82.alloc | apply IsS82.drewN | apply IsS82.drew | apply IsS82.set_1 | apply IsS82.set_2) | exact HI0.out)⟩, ⟨by repeat (first | (with_reducible first | exact HK.out | apply ac_.set_ | apply ah_ | apply al_ | apply ai_) | exact HK.out)⟩, ⟨by repeat (first | (with_reducible first | exact HB.out | apply bA_ | apply bN_ | apply bD_ | refine af_ ?_ (IsS82.ge HI0.out)) | exact HB.out)⟩⟩
   subst c10
   have H1 : (if 0 ≤ x5_1 then (if x5_1 < (y101.length : Int) then ((bq_.f s0_0 t108 t109).bind fun bt111 => (if x4_1.length < 2932031007402 then (ay_.l0 k1 y101 (x4_1 ++ [(⟨rdOf ByteArray.empty y101 x5_1, (⟨bt111.1, bt111.2.1, bt111.2.2.1⟩ : S57)⟩ : S59)]) (wrap64 (x5_1 + 1)) s0_0 bt111.2.2.2.1 bt111.2.2.2.2) else (none))) else (none)) else (none)) = some (r1, r2, r3) := by rw [if_pos rfl] at H; exact H
   clear H
   have H := H1
   clear H1
   by_cases c11 : 0 ≤ x5_1
   rotate_left
   ·rw [if_neg c11] at H
    exact absurd H (by simp)
   rw [if_pos c11] at H
   have c11b0 : decide (0 ≤ x5_1) = true := decide_eq_true c11
   clear c11
   (first | rw [c11b0] | (simp only [i64_w, i32_w]; rw [c11b0]) | (simp only [c11b1, Bool.not_true, Bool.not_false]) | (simp only [c11b0, Bool.not_true, Bool.not_false]) | skip)
   by_cases c12 : x5_1 < (y101.length : Int)
   rotate_left
   ·rw [if_neg c12] at H
    exact absurd H (by simp)
   rw [if_pos c12] at H
   have c12b0 : decide (x5_1 < (y101.length : Int)) = true := decide_eq_true c12
   clear c12
   replace H := Option.bind_eq_some_iff.mp H
   obtain ⟨⟨t111, t112, t113, t114, t115⟩, A130, H⟩ := H
   (try dsimp only at H)
   have A13 := Aside0.mk A130
   clear A130
   by_cases c14 : x4_1.length < 2932031007402
   rotate_left
   ·rw [if_neg c14] at H
    exact absurd H (by simp)
   rw [if_pos c14] at H
   have LMc14 := Aside0.mk c14
   clear c14
   obtain ⟨y116, hy116⟩ : ∃ y_ : List (S59), y_ = (x4_1 ++ [(⟨rdOf ByteArray.empty y101 x5_1, (⟨t111, t112, t113⟩ : S57)⟩ : S59)]) := ⟨_, rfl⟩
   replace H : (ay_.l0 k1 y101 y116 (wrap64 (x5_1 + 1)) s0_0 t114 t115) = some (r1, r2, r3) := by first | (rw [hy116]; with_reducible exact H) | (have H2_ := (Option.bind_some _ _).symm.trans H; rw [hy116]; with_reducible exact H2_) | (have H2_ := (Option.bind_some _ _).symm.trans H; with_reducible exact H2_) | with_reducible exact H | (rw [hy116]; exact H) | exact H
   have Ny116 := Aside0.mk hy116
   clear hy116
   have H' := Aside0.mk H
   clear H
   try go_wp2
   (try (rw [dt_ w9]; generalize hq_ : World.drewN w9 _ = w9; have n0_ : Aside0 (Kd.R Kd.string 9 w9 w.heap.size (fun k_ => True) v102 y101) := ⟨by rw [← hq_]; exact (rz HO_3.out)⟩; have n1_ : Aside0 (Kd.R k59 59 w9 w.heap.size (fun k_ => True) u4 x4_1) := ⟨by rw [← hq_]; exact (rz HO_4.out)⟩; have n2_ : Aside0 (IsS82 w0 w9 g s0_0 t108 t109) := ⟨by rw [← hq_]; exact (by repeat (first | (with_reducible first | exact HI0.out | apply IsS82.alloc | apply IsS82.drewN | apply IsS82.drew | apply IsS82.set_1 | apply IsS82.set_2) | exact HI0.out))⟩; have n3_ : Aside0 (ac_ w w9 g none) := ⟨by rw [← hq_]; exact (by repeat (first | (with_reducible first | exact HK.out | apply ac_.set_ | apply ah_ | apply al_ | apply ai_) | exact HK.out))⟩; have n4_ : Aside0 (Below w0.heap.size w0 w9) := ⟨by rw [← hq_]; exact (by repeat (first | (with_reducible first | exact HB.out | apply bA_ | apply bN_ | apply bD_ | refine af_ ?_ (IsS82.ge HI0.out)) | exact HB.out))⟩; clear HO_3 HO_4 HI0 HK HB hq_; have HO_3 := n0_; have HO_4 := n1_; have HI0 := n2_; have HK := n3_; have HB := n4_; clear n0_ n1_ n2_ n3_ n4_))
   have n0_ := Aside0.mk (Kd.R_drew HO_3.out)
   have n1_ := Aside0.mk (Kd.R_drew HO_4.out)
   have n2_ := Aside0.mk (IsS82.drew HI0.out)
   have n3_ := Aside0.mk (al_ HK.out)
   have n4_ := Aside0.mk (bD_ HB.out)
   clear HO_3
   clear HO_4
   clear HI0
   clear HK
   clear HB
   have HO_3 := n0_
   have HO_4 := n1_
   have HI0 := n2_
   have HK := n3_
   have HB := n4_
   clear n0_ n1_ n2_ n3_ n4_
   obtain ⟨Ao16, co16, eo16⟩ := Kd.bo_ HO_3.out
   (first | subst eo16 | (injection eo16 with f1_ f2_ f3_; have f4_ := f1_.symm; have f5_ := f3_.symm; clear f1_ f2_ f3_; subst f4_; subst f5_))
   have p110 : 0 ≤ (x5_1 : Int) := of_decide_eq_true (by assumption)
   have q110 : x5_1 < (y101.length : Int) := of_decide_eq_true (by assumption)
   obtain ⟨ad110, e110, hx110_0⟩ := Kd.cW_ (Kd.aj_ HO_3.out).2.2 x5_1 p110 q110
   cases e110
   replace p110 := eq_true p110
   replace q110 := eq_true q110
   refine start_ (n := 11) (S := fun w' => w'.cell? (ad110.add (x5_1).toNat) = some (.string (rdOf ByteArray.empty y101 x5_1))) (ds := [8, 9]) #[f_,f_,f_,f_,f_,f_,f_,f_,f_,f_,f_] (by kernel_rfl) rfl rfl (hx110_0) (fun hHeld => ?_); refine db_ ay_.tab7 ay_.bits7 (fun HT_ HW_ => ?_)
   generalize w9.drew = w15 at HO_3 HO_4 HI0 HK HB hx110_0 hHeld ⊢
   refine pu 0 14 #[t_,f_,f_,f_,f_,f_,f_,f_,f_,f_,f_] HT_ ?_
   refine pu 1 15 #[t_,t_,f_,f_,f_,f_,f_,f_,f_,f_,f_] HT_ ?_
   refine pu 2 16 #[t_,t_,t_,f_,f_,f_,f_,f_,f_,f_,f_] HT_ ?_
   refine pu 3 17 #[t_,t_,t_,t_,f_,f_,f_,f_,f_,f_,f_] HT_ ?_
   refine pu 5 19 #[t_,t_,t_,t_,f_,t_,f_,f_,f_,f_,f_] HT_ ?_
   refine tk 4 18 #[t_,t_,t_,t_,t_,t_,f_,f_,f_,f_,f_] HT_ HW_ hHeld ?_ (hv := by intro w' s0; go_simp; with_reducible rfl)
   refine one_ (i := 6) (N := some 20) #[t_,t_,t_,t_,t_,t_,t_,f_,f_,f_,f_] rfl rfl (cV_ HT_.out (by kernel_rfl)) (by decide) (fun K hK => ?_)
   (first | refine goes_ Tryd.func49 (by kernel_rfl) rfl #[.pointer (some ⟨g, 0, none⟩)] (by rfl) rfl rfl (by first | rfl | (simp only [lma_, lmc_, lmn_]; first | done | rfl)) ?_ | refine RPW.cX_ Tryd.func49 (by kernel_rfl) rfl #[.pointer (some ⟨g, 0, none⟩)] (by rfl) rfl rfl rfl (by first | rfl | (simp only [lma_, lmc_, lmn_]; first | done | rfl)) ?_ | refine RPW.cY_ Tryd.func49 (by kernel_rfl) rfl #[.pointer (some ⟨g, 0, none⟩)] (by rfl) rfl rfl rfl (by first | rfl | (simp only [lma_, lmc_, lmn_]; first | done | rfl)) ?_)
   with_reducible refine (bq_.calls g s0_0 t108 t109 t111 t112 t113 t114 t115 w0 _ ?side1 ?side2 A13.out).mono ?_
   (case side1 => repeat (first | (with_reducible first | exact HI0.out | apply IsS82.alloc | apply IsS82.drewN | apply IsS82.drew | apply IsS82.set_1 | apply IsS82.set_2) | exact HI0.out))
   (case side2 => repeat (first | (with_reducible first | exact HB.out | apply bA_ | apply bN_ | apply bD_ | refine af_ ?_ (IsS82.ge HI0.out)) | exact HB.out))
   rintro e w17 ⟨rfl, hi, hb, hk⟩
   have HS0_ := keep_cell hk (hHeld) (by first | (rw [add_block]; exact Kd.own_blk (IsS82.own_ne HI0.out HO_3.out (by decide))) | (show (Addr.add _ _).block ≠ _; rw [add_block]; exact Kd.own_blk (IsS82.own_ne HI0.out HO_3.out (by decide))) | exact Kd.own_blk (IsS82.own_ne HI0.out HO_3.out (by decide)))
   refine ⟨_, rfl, ?_⟩
   have n0_ := Aside0.mk (Kd.aT_ (Kd.df_ (IsS82.apart (show IsS82 w0 _ g s0_0 t108 t109 from by repeat (first | (with_reducible first | exact HI0.out | apply IsS82.alloc | apply IsS82.drewN | apply IsS82.drew | apply IsS82.set_1 | apply IsS82.set_2) | exact HI0.out)) (rz HO_3.out) (by decide)) hk (fun _ h => h.2)) (fun _ h => h.1))
   have n1_ := Aside0.mk (Kd.aT_ (Kd.df_ (IsS82.apart (show IsS82 w0 _ g s0_0 t108 t109 from by repeat (first | (with_reducible first | exact HI0.out | apply IsS82.alloc | apply IsS82.drewN | apply IsS82.drew | apply IsS82.set_1 | apply IsS82.set_2) | exact HI0.out)) (rz HO_4.out) (by decide)) hk (fun _ h => h.2)) (fun _ h => h.1))
   have n2_ := Aside0.mk (ac_.trans (by repeat (first | (with_reducible first | exact HK.out | apply ac_.set_ | apply ah_ | apply al_ | apply ai_) | exact HK.out)) hk (.inl rfl))
   have n3_ := Aside0.mk (hb)
   have n4_ := Aside0.mk (hi)
   clear HO_3
   clear HO_4
   clear HK
   clear HB
   clear HI0
   have HO_3 := n0_
   have HO_4 := n1_
   have HK := n2_
   have HB := n3_
   have HI0 := n4_
   clear n0_ n1_ n2_ n3_ n4_
   (try clear hb)
   refine hK.out _ _ (HS0_) (fun hHeld => ?_)
   clear hK K
   refine norm_ (a' := ?_) ?_ ?_
   rotate_left
   ·show Act.put _ (some 20) _ = _
    simp only [Act.put, lsa_, ls0_, ls1_, i64_w, i32_w]
    rfl
   refine pu 7 21 #[t_,t_,t_,t_,t_,t_,t_,t_,f_,f_,f_] HT_ ?_
   refine last_ (i := 8) (N := some 22) #[t_,t_,t_,t_,t_,t_,t_,t_,t_,f_,f_] rfl rfl (cV_ HT_.out (by kernel_rfl)) (by decide) (fun K hK => ?_)
   refine value_ (w1 := ?_) (v := ?_) (by rfl) rfl ?_ ?_
   rotate_left 2
   ·go_simp
    constructor
    ·rfl
    ·rfl
   refine hK.out _ _ ?_
   clear hK K
   refine norm_ (a' := ?_) ?_ ?_
   rotate_left
   ·show Act.put _ (some 22) _ = _
    simp only [Act.put, lsa_, ls0_, ls1_, i64_w, i32_w]
    rfl
   refine last_ (i := 9) (N := some 23) #[t_,t_,t_,t_,t_,t_,t_,t_,t_,t_,f_] rfl rfl (cV_ HT_.out (by kernel_rfl)) (by decide) (fun K hK => ?_)
   refine Kd.R_append_step k59 w.heap.size (by rfl) (.tmp 14) (.tmp 22) 26 59 (.agg #[(.string ⟨#[]⟩), (.string ⟨#[]⟩), (.int .i64 0), (.int .i64 0)]) 48 rfl Tryd.underlying26 dm_ rfl (by decide) (by omega) u4 x4_1 (⟨rdOf ByteArray.empty y101 x5_1, (⟨t111, t112, t113⟩ : S57)⟩ : S59) [.string (rdOf ByteArray.empty y101 x5_1), .string t111, .int .i64 t112, .int .i64 t113] (fun _ => True) (fun _ => False) rfl rfl ?aP (fun _ hk => hk.elim) ?aF ?aO (Below.refl _ _) ?aS ?aL ?_
   (case aP => exact cR_ _ _ _ (⟨rdOf ByteArray.empty y101 x5_1, (⟨t111, t112, t113⟩ : S57)⟩ : S59))
   (case aF => exact (fun _ _ => trivial))
   (case aO => exact (rz HO_4.out))
   (case aS => exact (br_ (w := w) (g := g) (row := none) (by repeat (first | (with_reducible first | exact HK.out | apply ac_.set_ | apply ah_ | apply al_ | apply ai_) | exact HK.out))))
   (case aL => have := LMc14.out; omega)
   intro v117 w18 ho hb hg hat
   rw [← Ny116.out] at ho
   have n0_ := Aside0.mk (Kd.R_over' (rz HO_3.out) (Kd.R_typed (rz HO_4.out)) (by decide) hg)
   have n1_ := Aside0.mk (IsS82.grown (by repeat (first | (with_reducible first | exact HI0.out | apply IsS82.alloc | apply IsS82.drewN | apply IsS82.drew | apply IsS82.set_1 | apply IsS82.set_2) | exact HI0.out)) hg (IsS82.own_ne HI0.out HO_4.out (by decide)))
   have n2_ := Aside0.mk (ds_ (by repeat (first | (with_reducible first | exact HB.out | apply bA_ | apply bN_ | apply bD_ | refine af_ ?_ (IsS82.ge HI0.out)) | exact HB.out)) HL.out hb)
   have n3_ := Aside0.mk (ac_.trans (by repeat (first | (with_reducible first | exact HK.out | apply ac_.set_ | apply ah_ | apply al_ | apply ai_) | exact HK.out)) (ac_.of_grown hg g) (Kd.R_base2 HO_4.out))
   have n4_ := Aside0.mk (ho)
   clear HO_3
   clear HI0
   clear HB
   clear HK
   clear HO_4
   have HO_3 := n0_
   have HI0 := n1_
   have HB := n2_
   have HK := n3_
   have HO118 := n4_
   clear n0_ n1_ n2_ n3_ n4_
   clear ho hb hg hat
   refine hK.out _ _ ?_
   clear hK K
   refine norm_ (a' := ?_) ?_ ?_
   rotate_left
   ·show Act.put _ (some 23) _ = _
    simp only [Act.put, lsa_, ls0_, ls1_, i64_w, i32_w]
    rfl
   refine pu 10 4 #[t_,t_,t_,t_,t_,t_,t_,t_,t_,t_,t_] HT_ ?_
   refine done_ (dH_ HT_.out (by kernel_rfl)) ?_
   try go_wp2
   go_roundg k1
   case measure => have := HK1.out; omega
   case rel => exact ⟨(y116), (wrap64 (x5_1 + 1)), (t114), (t115), (by first | rfl | (simp; done) | (simp [*]; done)), H', ⟨by have := HK1.out; omega⟩, ⟨rz HO_3.out⟩, ⟨rz HO118.out⟩, ⟨by repeat (first | (with_reducible first | exact HI0.out | apply IsS82.alloc | apply IsS82.drewN | apply IsS82.drew | apply IsS82.set_1 | apply IsS82.set_2) | exact HI0.out)⟩, ⟨by repeat (first | (with_reducible first | exact HK.out | apply ac_.set_ | apply ah_ | apply al_ | apply ai_) | exact HK.out)⟩, ⟨by repeat (first | (with_reducible first | exact HB.out | apply bA_ | apply bN_ | apply bD_ | refine af_ ?_ (IsS82.ge HI0.out)) | exact HB.out)⟩⟩
def cl_.l0 : Nat → List (S59) → ByteArray → Int → Option (Int)
 | 0, _, _, _ => none
 | k + 1, x0, x1, x5 => if x5 < (x0.length : Int) then (if 0 ≤ x5 then (if ((aa_ x0 x5).f0).toList = x1.toList then (some x5) else (cl_.l0 k x0 x1 (wrap64 (x5 + 1)))) else (none)) else (some (-1))
def cl_.f (k : Nat) (l0 : List (S59)) (a1 : ByteArray) : Option (Int) := cl_.l0 k l0 a1 0
set_option maxHeartbeats 8000000 in
set_option maxRecDepth 100000 in
theorem cl_.calls (k : Nat) (A0 : Option Addr) (c0 : Nat) (l0 : List (S59)) (a1 : ByteArray) (r : Int) (w : World) (hr0 : Kd.C k59 w A0 l0.length l0) (hc0 : l0.length ≤ c0) (h : cl_.f k l0 a1 = some r) :
  Calls Tryd.prog 50 #[.slice A0 l0.length c0, .string a1] w fun e w' => e = .returned (.int .i64 r) ∧ au_ w w' := by
 have HR0 := Aside0.mk hr0
 have HC0 := Aside0.mk hc0
 clear hr0 hc0
 have H : (cl_.l0 k l0 a1 0) = some r := h
 clear h
 have H' := Aside0.mk H
 clear H
 go_enter Tryd.func50, Tryd.ntmps50
 go_wp2
 (try simp only [Act.put, lsa_, ls0_, ls1_])
 go_loopg [5] k (fun kq v5 w' => ∃ (x5_1 : Int), v5 = .int .i64 x5_1 ∧ Aside0 (cl_.l0 kq l0 a1 x5_1 = some r) ∧ Aside0 (kq ≤ k) ∧ au_ w w')
 case atStart => exact ⟨(0), (by first | rfl | (simp; done) | (simp [*]; done)), H', ⟨Nat.le_refl _⟩, by repeat (first | exact au_.refl _ | apply au_.step)⟩
 case round =>
  clear H'
  obtain ⟨x5_1, rfl, HA, HK1, ⟨m1, rfl⟩⟩ := hrel
  cases gk with
  | zero => exact absurd HA.out (by simp [cl_.l0])
  | succ k1 =>
   have H := HA.out
   clear HA
   simp only [cl_.l0] at H
   by_cases c3 : x5_1 < (l0.length : Int)
   rotate_left
   ·rw [if_neg c3] at H
    have c3b0 : decide (x5_1 < (l0.length : Int)) = false := decide_eq_false c3
    clear c3
    obtain rfl := Option.some.inj H
    go_wp2
    go_ret
    exact ⟨by first | rfl | (simp; done) | (simp [*]; done), by repeat (first | exact au_.refl _ | apply au_.step)⟩
   rw [if_pos c3] at H
   have c3b0 : decide (x5_1 < (l0.length : Int)) = true := decide_eq_true c3
   clear c3
   by_cases c4 : 0 ≤ x5_1
   rotate_left
   ·rw [if_neg c4] at H
    exact absurd H (by simp)
   rw [if_pos c4] at H
   have c4b0 : decide (0 ≤ x5_1) = true := decide_eq_true c4
   clear c4
   by_cases c5 : ((aa_ l0 x5_1).f0).toList = a1.toList
   rotate_left
   ·rw [if_neg c5] at H
    have c5b0 : (((aa_ l0 x5_1).f0).toList == a1.toList) = false := beq_eq_false_iff_ne.mpr c5
    have c5b1 : (((aa_ l0 x5_1).f0).toList != a1.toList) = true := bne_iff_ne.mpr c5
    have H' := Aside0.mk H
    clear H
    have p101 : 0 ≤ (x5_1 : Int) := of_decide_eq_true (by assumption)
    have q101 : x5_1 < (l0.length : Int) := of_decide_eq_true (by assumption)
    obtain ⟨ad101, e101, hx101_0, hx101_1, hx101_2, hx101_3⟩ := cH_ HR0.out x5_1 p101 q101
    cases e101
    replace p101 := eq_true p101
    replace q101 := eq_true q101
    go_wp2
    go_roundg k1
    case measure => have := HK1.out; omega
    case rel => exact ⟨(wrap64 (x5_1 + 1)), (by first | rfl | (simp; done) | (simp [*]; done)), H', ⟨by have := HK1.out; omega⟩, by repeat (first | exact au_.refl _ | apply au_.step)⟩
   rw [if_pos c5] at H
   have c5b0 : (((aa_ l0 x5_1).f0).toList == a1.toList) = true := beq_iff_eq.mpr c5
   have c5b1 : (((aa_ l0 x5_1).f0).toList != a1.toList) = false := bne_eq_false_iff_eq.mpr c5
   clear c5
   obtain rfl := Option.some.inj H
   have p101 : 0 ≤ (x5_1 : Int) := of_decide_eq_true (by assumption)
   have q101 : x5_1 < (l0.length : Int) := of_decide_eq_true (by assumption)
   obtain ⟨ad101, e101, hx101_0, hx101_1, hx101_2, hx101_3⟩ := cH_ HR0.out x5_1 p101 q101
   cases e101
   replace p101 := eq_true p101
   replace q101 := eq_true q101
   go_wp2
   go_ret
   exact ⟨by first | rfl | (simp; done) | (simp [*]; done), by repeat (first | exact au_.refl _ | apply au_.step)⟩
end Go.Proofs.YtiheginanghhjaaDoor.Q
