/- a merge of two branches answers as the statement says This text holds the functions' walks and the words for them. -/
import Derived.Test.YtiheginanghhjaaKFnMergesa
import Derived.Test.YtiheginanghhjaaKFnMergesc
import Derived.Test.YtiheginanghhjaaKFnMergesd
import Derived.Test.YtiheginanghhjaaKFnMergesb
set_option linter.unusedVariables false
set_option linter.unusedSimpArgs false
namespace Go.Proofs.Ytiheginanghhjaa.Q
open Go.RowKit Go.Proofs.YtiheginanghhjaaW.PrintWords Go.Proofs.YtiheginanghhjaaW.PrintLast Go.Proofs.YtiheginanghhjaaW.PrintMore
attribute [local go_sem] aP_ aQ_ bh_ bg_ aE_ aD_ aR_ aO_
mutual
def aw_.l0 : Nat → List (S63) → List ByteArray → Int → List Int → Int → Int → Option ((List (S63)) × Int × Int)
 | 0, _, _, _, _, _, _ => none
 | k + 1, x5, x6, x7, x1000, x1001, x1002 => if x7 > 0 then ((az_.f x1000 x1001 x1002 6).bind fun bt113 => (if 0 ≤ bt113.1 then (if bt113.1 < (x6.length : Int) then ((ci_.f k x5 (rdOf ByteArray.empty x6 bt113.1)).bind fun t117 => (if t117 ≥ 0 then ((cx_.f x1000 bt113.2.1 bt113.2.2 2).bind fun bt118 => (aw_.j1 k x5 x6 x7 (rdOf ByteArray.empty x6 bt113.1) t117 bt118.1 x1000 bt118.2.1 bt118.2.2)) else (aw_.j1 k x5 x6 x7 (rdOf ByteArray.empty x6 bt113.1) t117 false x1000 bt113.2.1 bt113.2.2))) else (none)) else (none))) else (some (x5, x1001, x1002))
def aw_.j1 : Nat → List (S63) → List ByteArray → Int → ByteArray → Int → Bool → List Int → Int → Int → Option ((List (S63)) × Int × Int)
 | 0, _, _, _, _, _, _, _, _, _ => none
 | k + 1, x5, x6, x7, x8, x9, x34, x1000, x1001, x1002 => if x34 = true then ((some (([] : List (S63)) : List (S63))).bind fun y121 => (if 0 ≤ x9 then (if x9 ≤ (x5.length : Int) then ((some (x5.take (x9 : Int).toNat : List (S63))).bind fun y124 => (if y121.length + y124.length < 2932031007402 then ((some (y121 ++ y124 : List (S63))).bind fun y128 => (if 0 ≤ (wrap64 (x9 + 1)) then (if (wrap64 (x9 + 1)) ≤ (x5.length : Int) then ((some (x5.drop ((wrap64 (x9 + 1)) : Int).toNat : List (S63))).bind fun y131 => (if y128.length + y131.length < 2932031007402 then (aw_.l0 k (y128 ++ y131) x6 (wrap64 (x7 - 1)) x1000 x1001 x1002) else (none))) else (none)) else (none))) else (none))) else (none)) else (none))) else ((br_.f x1000 x1001 x1002).bind fun bt138 => ((aX_.f k x5 x8 bt138.1 bt138.2.1 bt138.2.2.1).bind fun t143 => (aw_.l0 k t143 x6 (wrap64 (x7 - 1)) x1000 bt138.2.2.2.1 bt138.2.2.2.2)))
end
def aw_.f (k : Nat) (s0_0 : List Int) (s0_1 : Int) (s0_2 : Int) (l1 : List (S63)) : Option ((List (S63)) × Int × Int) := (some (([] : List (S63)) : List (S63))).bind fun y101 => (if y101.length + l1.length < 2932031007402 then ((az_.f s0_0 s0_1 s0_2 4).bind fun bt110 => (aw_.l0 k (y101 ++ l1) (([(⟨#[97]⟩ : ByteArray), (⟨#[98]⟩ : ByteArray), (⟨#[99]⟩ : ByteArray), (⟨#[100]⟩ : ByteArray), (⟨#[101]⟩ : ByteArray), (⟨#[102]⟩ : ByteArray)] : List ByteArray)) bt110.1 s0_0 bt110.2.1 bt110.2.2)) else (none))
set_option maxHeartbeats 8000000 in
set_option maxRecDepth 100000 in
theorem aw_.calls (k : Nat) (g : Nat) (s0_0 : List Int) (s0_1 : Int) (s0_2 : Int) (A1 : Option Addr) (c1 : Nat) (l1 : List (S63)) (r1 : List (S63)) (r2 : Int) (r3 : Int) (w0 w : World) (hI : aa_ w0 w g s0_0 s0_1 s0_2) (hB : Below w0.heap.size w0 w) (hr1 : ∀ W_, ab_ w W_ g none → Kd.C k63 W_ A1 l1.length l1) (hc1 : l1.length ≤ c1) (h : aw_.f k s0_0 s0_1 s0_2 l1 = some (r1, r2, r3)) :
  Calls Try.prog 61 #[.pointer (some ⟨g, 0, none⟩), .slice A1 l1.length c1] w fun e w' => ∃ v0_ : Value, e = .returned (v0_) ∧ Kd.R k63 63 w' w.heap.size (fun _ => True) v0_ r1 ∧ aa_ w0 w' g s0_0 r2 r3 ∧ Below w0.heap.size w0 w' ∧ ab_ w w' g none := by
 have hu63 := Try.underlying63
 have HR1 := Aside0.mk hr1
 have HC1 := Aside0.mk hc1
 clear hr1 hc1
 have HI0 := Aside0.mk hI
 have HK := Aside0.mk (ab_.refl w g none)
 have HL := Aside0.mk hB.size
 clear hI
 have HW0 := Aside0.mk hB.size
 have HB := Aside0.mk hB
 clear hB
 have H : ((some (([] : List (S63)) : List (S63))).bind fun y101 => (if y101.length + l1.length < 2932031007402 then ((az_.f s0_0 s0_1 s0_2 4).bind fun bt110 => (aw_.l0 k (y101 ++ l1) (([(⟨#[97]⟩ : ByteArray), (⟨#[98]⟩ : ByteArray), (⟨#[99]⟩ : ByteArray), (⟨#[100]⟩ : ByteArray), (⟨#[101]⟩ : ByteArray), (⟨#[102]⟩ : ByteArray)] : List ByteArray)) bt110.1 s0_0 bt110.2.1 bt110.2.2)) else (none))) = some (r1, r2, r3) := h
 clear h
 obtain ⟨y101, hy101⟩ : ∃ y_ : List (S63), y_ = (([] : List (S63))) := ⟨_, rfl⟩
 replace H : (if y101.length + l1.length < 2932031007402 then ((az_.f s0_0 s0_1 s0_2 4).bind fun bt110 => (aw_.l0 k (y101 ++ l1) (([(⟨#[97]⟩ : ByteArray), (⟨#[98]⟩ : ByteArray), (⟨#[99]⟩ : ByteArray), (⟨#[100]⟩ : ByteArray), (⟨#[101]⟩ : ByteArray), (⟨#[102]⟩ : ByteArray)] : List ByteArray)) bt110.1 s0_0 bt110.2.1 bt110.2.2)) else (none)) = some (r1, r2, r3) := by first | (rw [hy101]; with_reducible exact H) | (have H2_ := (Option.bind_some _ _).symm.trans H; rw [hy101]; with_reducible exact H2_) | (have H2_ := (Option.bind_some _ _).symm.trans H; with_reducible exact H2_) | with_reducible exact H | (rw [hy101]; exact H) | exact H
 have Ny101 := Aside0.mk hy101
 clear hy101
 by_cases c3 : y101.length + l1.length < 2932031007402
 rotate_left
 ·rw [if_neg c3] at H
  exact absurd H (by simp)
 rw [if_pos c3] at H
 have LMc3 := Aside0.mk c3
 clear c3
 obtain ⟨y104, hy104⟩ : ∃ y_ : List (S63), y_ = (y101 ++ l1) := ⟨_, rfl⟩
 replace H : ((az_.f s0_0 s0_1 s0_2 4).bind fun bt110 => (aw_.l0 k y104 (([(⟨#[97]⟩ : ByteArray), (⟨#[98]⟩ : ByteArray), (⟨#[99]⟩ : ByteArray), (⟨#[100]⟩ : ByteArray), (⟨#[101]⟩ : ByteArray), (⟨#[102]⟩ : ByteArray)] : List ByteArray)) bt110.1 s0_0 bt110.2.1 bt110.2.2)) = some (r1, r2, r3) := by first | (rw [hy104]; with_reducible exact H) | (have H2_ := (Option.bind_some _ _).symm.trans H; rw [hy104]; with_reducible exact H2_) | (have H2_ := (Option.bind_some _ _).symm.trans H; with_reducible exact H2_) | with_reducible exact H | (rw [hy104]; exact H) | exact H
 have Ny104 := Aside0.mk hy104
 clear hy104
 obtain ⟨y107, hy107⟩ : ∃ y_ : List ByteArray, y_ = (([(⟨#[97]⟩ : ByteArray), (⟨#[98]⟩ : ByteArray), (⟨#[99]⟩ : ByteArray), (⟨#[100]⟩ : ByteArray), (⟨#[101]⟩ : ByteArray), (⟨#[102]⟩ : ByteArray)] : List ByteArray)) := ⟨_, rfl⟩
 replace H : ((az_.f s0_0 s0_1 s0_2 4).bind fun bt110 => (aw_.l0 k y104 y107 bt110.1 s0_0 bt110.2.1 bt110.2.2)) = some (r1, r2, r3) := by first | (rw [hy107]; with_reducible exact H) | (have H2_ := (Option.bind_some _ _).symm.trans H; rw [hy107]; with_reducible exact H2_) | (have H2_ := (Option.bind_some _ _).symm.trans H; with_reducible exact H2_) | with_reducible exact H | (rw [hy107]; exact H) | exact H
 have Ny107 := Aside0.mk hy107
 clear hy107
 replace H := Option.bind_eq_some_iff.mp H
 obtain ⟨⟨t110, t111, t112⟩, A40, H⟩ := H
 (try dsimp only at H)
 have A4 := Aside0.mk A40
 clear A40
 have H' := Aside0.mk H
 clear H
 go_enter Try.func61, Try.ntmps61
 go_wp2_with (first | ((with_reducible refine aH_ (N := 11) rfl ?_); refine Kd.R_lit k63 _ 63 ?hg (N := 11) ?hd (xs := ([] : List (S63))) (inner := []) (ok := fun _ => True) (okp := fun _ => True) ?hr ?hp (fun _ hk => hk) trivial (Below.refl _ _) (Nat.le_refl _) (by simp) ?_; (case hd => rfl); (case hg => rfl); (case hr => (go_simp; try rfl)); (case hp => exact (Reps.none _ _)); intro v102 w5 ho6 hb hg_ hnew_; clear hg_ hnew_; (first | rw [← Ny101.out] at ho6 | (simp only [Int.reduceToNat] at ho6; rw [← Ny101.out] at ho6)); have HO103 := Aside0.mk (Kd.bt_ ho6 (bw_ (w := w) (g := g) (row := none) (by repeat (first | (with_reducible first | exact HK.out | apply ab_.set_ | apply aj_ | apply ak_ | apply ai_) | exact HK.out)))); replace HK := Aside0.mk (ab_.trans (by repeat (first | (with_reducible first | exact HK.out | apply ab_.set_ | apply aj_ | apply ak_ | apply ai_) | exact HK.out)) (ab_.of_below hb g none) (.inl rfl)); replace HB := Aside0.mk (ac_ (by repeat (first | (with_reducible first | exact HB.out | apply bA_ | apply bN_ | apply bD_ | refine ag_ ?_ (aa_.ge HI0.out)) | exact HB.out)) hb); replace HI0 := Aside0.mk (aa_.below (by repeat (first | (with_reducible first | exact HI0.out | apply aa_.alloc | apply aa_.drewN | apply aa_.drew | apply aa_.set_1 | apply aa_.set_2) | exact HI0.out)) hb); clear hb ho6) | ((with_reducible refine be_ (b := .append) (xs := #[.tmp 11, .tmp 12]) rfl ?_); at_builtin; refine Kd.cE_ k63 w.heap.size rfl (.tmp 11) (.tmp 12) 27 63 (.agg #[(.string ⟨#[]⟩), (.string ⟨#[]⟩), (.int .i64 0), (.int .i64 0)]) 48 rfl Try.underlying27 cW_ rfl (by decide) (by omega) v102 y101 l1 _ _ _ (fun _ => True) (fun _ => False) rfl rfl ?aO ?aR (fun _ _ h => h) (fun _ h => h.elim) ?aF (Below.refl _ _) ?aS ?aL ?_; (case aR => exact Kd.C_foot_now HR1.out (by repeat (first | (with_reducible first | exact HK.out | apply ab_.set_ | apply aj_ | apply ak_ | apply ai_) | exact HK.out))); (case aF => exact (fun _ _ => trivial)); (case aO => exact (rz HO103.out)); (case aS => exact (bw_ (w := w) (g := g) (row := none) (by repeat (first | (with_reducible first | exact HK.out | apply ab_.set_ | apply aj_ | apply ak_ | apply ai_) | exact HK.out)))); (case aL => have := LMc3.out; omega); intro v105 w7 ho hb hg hat; rw [← Ny104.out] at ho; replace HB := Aside0.mk (dh_ (by repeat (first | (with_reducible first | exact HB.out | apply bA_ | apply bN_ | apply bD_ | refine ag_ ?_ (aa_.ge HI0.out)) | exact HB.out)) HL.out hb); replace HI0 := Aside0.mk (aa_.grown (by repeat (first | (with_reducible first | exact HI0.out | apply aa_.alloc | apply aa_.drewN | apply aa_.drew | apply aa_.set_1 | apply aa_.set_2) | exact HI0.out)) hg (aa_.own_ne HI0.out HO103.out (by decide))); replace HK := Aside0.mk (ab_.trans (by repeat (first | (with_reducible first | exact HK.out | apply ab_.set_ | apply aj_ | apply ak_ | apply ai_) | exact HK.out)) (ab_.of_grown hg g) (Kd.R_base2 HO103.out)); have HO106 := Aside0.mk (ho); clear HO103; clear ho hb hg hat) | ((with_reducible refine aH_ (N := 14) rfl ?_); refine Kd.R_lit Kd.string _ 9 ?hg (N := 14) ?hd (xs := ([(⟨#[97]⟩ : ByteArray), (⟨#[98]⟩ : ByteArray), (⟨#[99]⟩ : ByteArray), (⟨#[100]⟩ : ByteArray), (⟨#[101]⟩ : ByteArray), (⟨#[102]⟩ : ByteArray)] : List ByteArray)) (inner := [.string (⟨#[97]⟩ : ByteArray), .string (⟨#[98]⟩ : ByteArray), .string (⟨#[99]⟩ : ByteArray), .string (⟨#[100]⟩ : ByteArray), .string (⟨#[101]⟩ : ByteArray), .string (⟨#[102]⟩ : ByteArray)]) (ok := fun _ => True) (okp := fun _ => True) ?hr ?hp (fun _ hk => hk) trivial (Below.refl _ _) (Nat.le_refl _) (by simp) ?_; (case hd => rfl); (case hg => rfl); (case hr => (go_simp; try rfl)); (case hp => exact (Reps.one (show Kd.M Kd.string _ _ _ (⟨#[97]⟩ : ByteArray) [.string (⟨#[97]⟩ : ByteArray)] from rfl) (Reps.one (show Kd.M Kd.string _ _ _ (⟨#[98]⟩ : ByteArray) [.string (⟨#[98]⟩ : ByteArray)] from rfl) (Reps.one (show Kd.M Kd.string _ _ _ (⟨#[99]⟩ : ByteArray) [.string (⟨#[99]⟩ : ByteArray)] from rfl) (Reps.one (show Kd.M Kd.string _ _ _ (⟨#[100]⟩ : ByteArray) [.string (⟨#[100]⟩ : ByteArray)] from rfl) (Reps.one (show Kd.M Kd.string _ _ _ (⟨#[101]⟩ : ByteArray) [.string (⟨#[101]⟩ : ByteArray)] from rfl) (Reps.one (show Kd.M Kd.string _ _ _ (⟨#[102]⟩ : ByteArray) [.string (⟨#[102]⟩ : ByteArray)] from rfl) (Reps.none _ _)))))))); intro v108 w8 ho9 hb hg_ hnew_; clear hg_ hnew_; (first | rw [← Ny107.out] at ho9 | (simp only [Int.reduceToNat] at ho9; rw [← Ny107.out] at ho9)); replace HO106 := Aside0.mk (Kd.aT_ (rz HO106.out) hb); have HO109 := Aside0.mk (Kd.bt_ ho9 (bw_ (w := w) (g := g) (row := none) (by repeat (first | (with_reducible first | exact HK.out | apply ab_.set_ | apply aj_ | apply ak_ | apply ai_) | exact HK.out)))); replace HK := Aside0.mk (ab_.trans (by repeat (first | (with_reducible first | exact HK.out | apply ab_.set_ | apply aj_ | apply ak_ | apply ai_) | exact HK.out)) (ab_.of_below hb g none) (.inl rfl)); replace HB := Aside0.mk (ac_ (by repeat (first | (with_reducible first | exact HB.out | apply bA_ | apply bN_ | apply bD_ | refine ag_ ?_ (aa_.ge HI0.out)) | exact HB.out)) hb); replace HI0 := Aside0.mk (aa_.below (by repeat (first | (with_reducible first | exact HI0.out | apply aa_.alloc | apply aa_.drewN | apply aa_.drew | apply aa_.set_1 | apply aa_.set_2) | exact HI0.out)) hb); clear hb ho9) | ((with_reducible refine ah_ (f := 86) rfl ?_); refine aN_ (some 16) rfl rfl Try.func86 (by kernel_rfl) rfl #[.pointer (some ⟨g, 0, none⟩), .int .i64 4] rfl (by first | rfl | (simp only [lma_, lmc_, lmn_]; first | done | rfl)) ?_; (with_reducible refine (az_.calls g s0_0 s0_1 s0_2 4 t110 t111 t112 w0 _ ?side1 ?side2 A4.out).mono ?_); (case side1 => repeat (first | (with_reducible first | exact HI0.out | apply aa_.alloc | apply aa_.drewN | apply aa_.drew | apply aa_.set_1 | apply aa_.set_2) | exact HI0.out)); (case side2 => repeat (first | (with_reducible first | exact HB.out | apply bA_ | apply bN_ | apply bD_ | refine ag_ ?_ (aa_.ge HI0.out)) | exact HB.out)); rintro e w10 ⟨rfl, hi, hb, hk⟩; refine ⟨_, rfl, ?_⟩; replace HO106 := Aside0.mk (Kd.aB_ (Kd.cY_ (aa_.apart (show aa_ w0 _ g s0_0 s0_1 s0_2 from by repeat (first | (with_reducible first | exact HI0.out | apply aa_.alloc | apply aa_.drewN | apply aa_.drew | apply aa_.set_1 | apply aa_.set_2) | exact HI0.out)) (rz HO106.out) (by decide)) hk (fun _ h => h.2)) (fun _ h => h.1)); replace HO109 := Aside0.mk (Kd.aB_ (Kd.cY_ (aa_.apart (show aa_ w0 _ g s0_0 s0_1 s0_2 from by repeat (first | (with_reducible first | exact HI0.out | apply aa_.alloc | apply aa_.drewN | apply aa_.drew | apply aa_.set_1 | apply aa_.set_2) | exact HI0.out)) (rz HO109.out) (by decide)) hk (fun _ h => h.2)) (fun _ h => h.1)); replace HK := Aside0.mk (ab_.trans (by repeat (first | (with_reducible first | exact HK.out | apply ab_.set_ | apply aj_ | apply ak_ | apply ai_) | exact HK.out)) hk (.inl rfl)); replace HB := Aside0.mk (hb); replace HI0 := Aside0.mk (hi); (try clear hb)))
 (try simp only [Act.put, lsa_, ls0_, ls1_])
 go_loopg [5, 7] k (fun kq v5 v7 w' => ∃ (x5_1 : List (S63)) (x7_1 : Int) (x1001_1 : Int) (x1002_1 : Int), v7 = .int .i64 x7_1 ∧ Aside0 (aw_.l0 kq x5_1 y107 x7_1 s0_0 x1001_1 x1002_1 = some (r1, r2, r3)) ∧ Aside0 (kq ≤ k) ∧ Aside0 (Kd.R k63 63 w' w.heap.size (fun _ => True) v5 x5_1) ∧ Aside0 (Kd.R Kd.string 9 w' w.heap.size (fun _ => True) v108 y107) ∧ Aside0 (aa_ w0 w' g s0_0 x1001_1 x1002_1) ∧ Aside0 (ab_ w w' g none) ∧ Aside0 (Below w0.heap.size w0 w'))
 case atStart => exact ⟨(y104), (t110), (t111), (t112), (by first | rfl | (simp; done) | (simp [*]; done)), H', ⟨Nat.le_refl _⟩, ⟨rz HO106.out⟩, ⟨rz HO109.out⟩, ⟨by repeat (first | (with_reducible first | exact HI0.out | apply aa_.alloc | apply aa_.drewN | apply aa_.drew | apply aa_.set_1 | apply aa_.set_2) | exact HI0.out)⟩, ⟨by repeat (first | (with_reducible first | exact HK.out | apply ab_.set_ | apply aj_ | apply ak_ | apply ai_) | exact HK.out)⟩, ⟨by repeat (first | (with_reducible first | exact HB.out | apply bA_ | apply bN_ | apply bD_ | refine ag_ ?_ (aa_.ge HI0.out)) | exact HB.out)⟩⟩
 case round =>
  clear H'
  obtain ⟨x5_1, x7_1, x1001_1, x1002_1, rfl, HA, HK1, HO_5, HO_6, HI0, HK, HB⟩ := hrel
  cases gk with
  | zero => exact absurd HA.out (by simp [aw_.l0])
  | succ k1 =>
   have H := HA.out
   clear HA
   simp only [aw_.l0] at H
   by_cases c11 : x7_1 > 0
   rotate_left
   ·rw [if_neg c11] at H
    have c11b0 : decide (0 < x7_1) = false := decide_eq_false c11
    clear c11
    simp only [Option.some.injEq, Prod.mk.injEq] at H
    obtain ⟨rfl, rfl, rfl⟩ := H
    go_wp2
    go_ret
    exact ⟨_, by first | rfl | (simp [*, ao_, an_] <;> rfl), rz HO_5.out, by repeat (first | (with_reducible first | exact HI0.out | apply aa_.alloc | apply aa_.drewN | apply aa_.drew | apply aa_.set_1 | apply aa_.set_2) | exact HI0.out), by repeat (first | (with_reducible first | exact HB.out | apply bA_ | apply bN_ | apply bD_ | refine ag_ ?_ (aa_.ge HI0.out)) | exact HB.out), by repeat (first | (with_reducible first | exact HK.out | apply ab_.set_ | apply aj_ | apply ak_ | apply ai_) | exact HK.out)⟩
   rw [if_pos c11] at H
   have c11b0 : decide (0 < x7_1) = true := decide_eq_true c11
   clear c11
   replace H := Option.bind_eq_some_iff.mp H
   obtain ⟨⟨t113, t114, t115⟩, A120, H⟩ := H
   (try dsimp only at H)
   have A12 := Aside0.mk A120
   clear A120
   by_cases c13 : 0 ≤ t113
   rotate_left
   ·rw [if_neg c13] at H
    exact absurd H (by simp)
   rw [if_pos c13] at H
   have c13b0 : decide (0 ≤ t113) = true := decide_eq_true c13
   clear c13
   by_cases c14 : t113 < (y107.length : Int)
   rotate_left
   ·rw [if_neg c14] at H
    exact absurd H (by simp)
   rw [if_pos c14] at H
   have c14b0 : decide (t113 < (y107.length : Int)) = true := decide_eq_true c14
   clear c14
   replace H := Option.bind_eq_some_iff.mp H
   obtain ⟨t117, A150, H⟩ := H
   (try dsimp only at H)
   have A15 := Aside0.mk A150
   clear A150
   have HC16 := Aside0.mk H
   clear H
   go_upto_region 8 with (first | ((with_reducible refine ah_ (f := 86) rfl ?_); refine aN_ (some 23) rfl rfl Try.func86 (by kernel_rfl) rfl #[.pointer (some ⟨g, 0, none⟩), .int .i64 6] rfl (by first | rfl | (simp only [lma_, lmc_, lmn_]; first | done | rfl)) ?_; (with_reducible refine (az_.calls g s0_0 x1001_1 x1002_1 6 t113 t114 t115 w0 _ ?side1 ?side2 A12.out).mono ?_); (case side1 => repeat (first | (with_reducible first | exact HI0.out | apply aa_.alloc | apply aa_.drewN | apply aa_.drew | apply aa_.set_1 | apply aa_.set_2) | exact HI0.out)); (case side2 => repeat (first | (with_reducible first | exact HB.out | apply bA_ | apply bN_ | apply bD_ | refine ag_ ?_ (aa_.ge HI0.out)) | exact HB.out)); rintro e w17 ⟨rfl, hi, hb, hk⟩; refine ⟨_, rfl, ?_⟩; replace HO_5 := Aside0.mk (Kd.aB_ (Kd.cY_ (aa_.apart (show aa_ w0 _ g s0_0 x1001_1 x1002_1 from by repeat (first | (with_reducible first | exact HI0.out | apply aa_.alloc | apply aa_.drewN | apply aa_.drew | apply aa_.set_1 | apply aa_.set_2) | exact HI0.out)) (rz HO_5.out) (by decide)) hk (fun _ h => h.2)) (fun _ h => h.1)); replace HO_6 := Aside0.mk (Kd.aB_ (Kd.cY_ (aa_.apart (show aa_ w0 _ g s0_0 x1001_1 x1002_1 from by repeat (first | (with_reducible first | exact HI0.out | apply aa_.alloc | apply aa_.drewN | apply aa_.drew | apply aa_.set_1 | apply aa_.set_2) | exact HI0.out)) (rz HO_6.out) (by decide)) hk (fun _ h => h.2)) (fun _ h => h.1)); replace HK := Aside0.mk (ab_.trans (by repeat (first | (with_reducible first | exact HK.out | apply ab_.set_ | apply aj_ | apply ak_ | apply ai_) | exact HK.out)) hk (.inl rfl)); replace HB := Aside0.mk (hb); replace HI0 := Aside0.mk (hi); (try clear hb); obtain ⟨Ao18, co18, eo18⟩ := Kd.bn_ HO_6.out; subst eo18; have p116 : 0 ≤ (t113 : Int) := of_decide_eq_true (by assumption); have q116 : t113 < (y107.length : Int) := of_decide_eq_true (by assumption); obtain ⟨ad116, e116, hx116_0⟩ := Kd.cz_ (Kd.as_ HO_6.out).2.2 t113 p116 q116; cases e116; replace p116 := eq_true p116; replace q116 := eq_true q116; obtain ⟨Ao19, co19, eo19⟩ := Kd.bn_ HO_5.out; subst eo19) | ((with_reducible refine ah_ (f := 87) rfl ?_); refine aN_ (some 28) rfl rfl Try.func87 (by kernel_rfl) rfl #[.slice Ao19 x5_1.length co19, .string (rdOf ByteArray.empty y107 t113)] rfl (by first | rfl | (simp only [lma_, lmc_, lmn_]; first | done | rfl)) ?_; (with_reducible refine (ci_.calls k1 _ _ x5_1 (rdOf ByteArray.empty y107 t113) t117 _ ?side1 ?side2 A15.out).mono ?_); (case side1 => exact cz (Kd.as_ HO_5.out).2.2); (case side2 => exact (Kd.as_ HO_5.out).2.1); rintro e w' ⟨rfl, ⟨nd, rfl⟩⟩; refine ⟨_, rfl, ?_⟩; (try (rw [bL_ w17]; generalize hq_ : World.drewN w17 _ = w17; have n0_ : Aside0 (Kd.R k63 63 w17 w.heap.size (fun k_ => True) (.slice Ao19 x5_1.length co19) x5_1) := ⟨by rw [← hq_]; exact (rz HO_5.out)⟩; have n1_ : Aside0 (Kd.R Kd.string 9 w17 w.heap.size (fun k_ => True) (.slice (some ad116) y107.length co18) y107) := ⟨by rw [← hq_]; exact (rz HO_6.out)⟩; have n2_ : Aside0 (aa_ w0 w17 g s0_0 t114 t115) := ⟨by rw [← hq_]; exact (by repeat (first | (with_reducible first | exact HI0.out | apply aa_.alloc | apply aa_.drewN | apply aa_.drew | apply aa_.set_1 | apply aa_.set_2) | exact HI0.out))⟩; have n3_ : Aside0 (ab_ w w17 g none) := ⟨by rw [← hq_]; exact (by repeat (first | (with_reducible first | exact HK.out | apply ab_.set_ | apply aj_ | apply ak_ | apply ai_) | exact HK.out))⟩; have n4_ : Aside0 (Below w0.heap.size w0 w17) := ⟨by rw [← hq_]; exact (by repeat (first | (with_reducible first | exact HB.out | apply bA_ | apply bN_ | apply bD_ | refine ag_ ?_ (aa_.ge HI0.out)) | exact HB.out))⟩; clear HO_5 HO_6 HI0 HK HB hq_; have HO_5 := n0_; have HO_6 := n1_; have HI0 := n2_; have HK := n3_; have HB := n4_; clear n0_ n1_ n2_ n3_ n4_))))
   (try simp only [Act.put, lsa_, ls0_, ls1_])
   go_cut [34] (fun v34 wc => ∃ (kq : Nat) (x34_15 : Bool) (x1001_15 : Int) (x1002_15 : Int), v34 = .bool x34_15 ∧ Aside0 (aw_.j1 kq x5_1 y107 x7_1 (rdOf ByteArray.empty y107 t113) t117 x34_15 s0_0 x1001_15 x1002_15 = some (r1, r2, r3)) ∧ Aside0 (kq ≤ k1) ∧ Aside0 (Kd.R k63 63 wc w.heap.size (fun _ => True) (.slice Ao19 x5_1.length co19) x5_1) ∧ Aside0 (Kd.R Kd.string 9 wc w.heap.size (fun _ => True) (.slice (some ad116) y107.length co18) y107) ∧ Aside0 (aa_ w0 wc g s0_0 x1001_15 x1002_15) ∧ Aside0 (ab_ w wc g none) ∧ Aside0 (Below w0.heap.size w0 wc))
   case first =>
    have H := HC16.out
    clear HC16
    by_cases c20 : t117 ≥ 0
    rotate_left
    ·rw [if_neg c20] at H
     have c20b0 : decide (0 ≤ t117) = false := decide_eq_false c20
     clear c20
     (first | rw [c20b0] | (simp only [i64_w, i32_w]; rw [c20b0]) | (simp only [c20b1, Bool.not_true, Bool.not_false]) | (simp only [c20b0, Bool.not_true, Bool.not_false]) | skip)
     have H' := Aside0.mk H
     clear H
     go_wp2
     go_meet
     case rel => exact ⟨_, (false), (t114), (t115), (by first | rfl | (simp; done) | (simp [*]; done)), H', ⟨by have := HK1.out; first | omega | exact Nat.le_refl _⟩, ⟨rz HO_5.out⟩, ⟨rz HO_6.out⟩, ⟨by repeat (first | (with_reducible first | exact HI0.out | apply aa_.alloc | apply aa_.drewN | apply aa_.drew | apply aa_.set_1 | apply aa_.set_2) | exact HI0.out)⟩, ⟨by repeat (first | (with_reducible first | exact HK.out | apply ab_.set_ | apply aj_ | apply ak_ | apply ai_) | exact HK.out)⟩, ⟨by repeat (first | (with_reducible first | exact HB.out | apply bA_ | apply bN_ | apply bD_ | refine ag_ ?_ (aa_.ge HI0.out)) | exact HB.out)⟩⟩
    rw [if_pos c20] at H
    have c20b0 : decide (0 ≤ t117) = true := decide_eq_true c20
    clear c20
    (first | rw [c20b0] | (simp only [i64_w, i32_w]; rw [c20b0]) | (simp only [c20b1, Bool.not_true, Bool.not_false]) | (simp only [c20b0, Bool.not_true, Bool.not_false]) | skip)
    replace H := Option.bind_eq_some_iff.mp H
    obtain ⟨⟨t118, t119, t120⟩, A210, H⟩ := H
    (try dsimp only at H)
    have A21 := Aside0.mk A210
    clear A210
    have H' := Aside0.mk H
    clear H
    go_wp2_with (first | (go_at_call 84; (with_reducible refine (cx_.calls g s0_0 t114 t115 2 t118 t119 t120 w0 _ ?side1 ?side2 A21.out).mono ?_); (case side1 => repeat (first | (with_reducible first | exact HI0.out | apply aa_.alloc | apply aa_.drewN | apply aa_.drew | apply aa_.set_1 | apply aa_.set_2) | exact HI0.out)); (case side2 => repeat (first | (with_reducible first | exact HB.out | apply bA_ | apply bN_ | apply bD_ | refine ag_ ?_ (aa_.ge HI0.out)) | exact HB.out)); rintro e w22 ⟨rfl, hi, hb, hk⟩; replace HO_5 := Aside0.mk (Kd.aB_ (Kd.cY_ (aa_.apart (show aa_ w0 _ g s0_0 t114 t115 from by repeat (first | (with_reducible first | exact HI0.out | apply aa_.alloc | apply aa_.drewN | apply aa_.drew | apply aa_.set_1 | apply aa_.set_2) | exact HI0.out)) (rz HO_5.out) (by decide)) hk (fun _ h => h.2)) (fun _ h => h.1)); replace HO_6 := Aside0.mk (Kd.aB_ (Kd.cY_ (aa_.apart (show aa_ w0 _ g s0_0 t114 t115 from by repeat (first | (with_reducible first | exact HI0.out | apply aa_.alloc | apply aa_.drewN | apply aa_.drew | apply aa_.set_1 | apply aa_.set_2) | exact HI0.out)) (rz HO_6.out) (by decide)) hk (fun _ h => h.2)) (fun _ h => h.1)); replace HK := Aside0.mk (ab_.trans (by repeat (first | (with_reducible first | exact HK.out | apply ab_.set_ | apply aj_ | apply ak_ | apply ai_) | exact HK.out)) hk (.inl rfl)); replace HB := Aside0.mk (hb); replace HI0 := Aside0.mk (hi); (try clear hb)))
    go_meet
    case rel => exact ⟨_, (t118), (t119), (t120), (by first | rfl | (simp; done) | (simp [*]; done)), H', ⟨by have := HK1.out; first | omega | exact Nat.le_refl _⟩, ⟨rz HO_5.out⟩, ⟨rz HO_6.out⟩, ⟨by repeat (first | (with_reducible first | exact HI0.out | apply aa_.alloc | apply aa_.drewN | apply aa_.drew | apply aa_.set_1 | apply aa_.set_2) | exact HI0.out)⟩, ⟨by repeat (first | (with_reducible first | exact HK.out | apply ab_.set_ | apply aj_ | apply ak_ | apply ai_) | exact HK.out)⟩, ⟨by repeat (first | (with_reducible first | exact HB.out | apply bA_ | apply bN_ | apply bD_ | refine ag_ ?_ (aa_.ge HI0.out)) | exact HB.out)⟩⟩
   case rest =>
    clear HC16
    obtain ⟨kq, x34_15, x1001_15, x1002_15, rfl, HA, HJ15, HO_5, HO_6, HI0, HK, HB⟩ := hcut
    cases kq with
    | zero => exact absurd HA.out (by simp [aw_.j1])
    | succ kj15 =>
     have H := HA.out
     clear HA
     simp only [aw_.j1] at H
     by_cases c23 : x34_15 = true
     rotate_left
     ·replace c23 := Bool.eq_false_iff.mpr c23
      subst c23
      have H1 : ((br_.f s0_0 x1001_15 x1002_15).bind fun bt138 => ((aX_.f kj15 x5_1 (rdOf ByteArray.empty y107 t113) bt138.1 bt138.2.1 bt138.2.2.1).bind fun t143 => (aw_.l0 kj15 t143 y107 (wrap64 (x7_1 - 1)) s0_0 bt138.2.2.2.1 bt138.2.2.2.2))) = some (r1, r2, r3) := by rw [if_neg (show ¬ (false = true) by decide)] at H; exact H
      clear H
      have H := H1
      clear H1
      replace H := Option.bind_eq_some_iff.mp H
      obtain ⟨⟨t138, t139, t140, t141, t142⟩, A370, H⟩ := H
      (try dsimp only at H)
      have A37 := Aside0.mk A370
      clear A370
      replace H := Option.bind_eq_some_iff.mp H
      obtain ⟨t143, A380, H⟩ := H
      (try dsimp only at H)
      have A38 := Aside0.mk A380
      clear A380
      have H' := Aside0.mk H
      clear H
      go_wp2_with (first | ((with_reducible refine ah_ (f := 85) rfl ?_); refine aN_ (some 49) rfl rfl Try.func85 (by kernel_rfl) rfl #[.pointer (some ⟨g, 0, none⟩)] rfl (by first | rfl | (simp only [lma_, lmc_, lmn_]; first | done | rfl)) ?_; (with_reducible refine (br_.calls g s0_0 x1001_15 x1002_15 t138 t139 t140 t141 t142 w0 _ ?side1 ?side2 A37.out).mono ?_); (case side1 => repeat (first | (with_reducible first | exact HI0.out | apply aa_.alloc | apply aa_.drewN | apply aa_.drew | apply aa_.set_1 | apply aa_.set_2) | exact HI0.out)); (case side2 => repeat (first | (with_reducible first | exact HB.out | apply bA_ | apply bN_ | apply bD_ | refine ag_ ?_ (aa_.ge HI0.out)) | exact HB.out)); rintro e w39 ⟨rfl, hi, hb, hk⟩; refine ⟨_, rfl, ?_⟩; replace HO_5 := Aside0.mk (Kd.aB_ (Kd.cY_ (aa_.apart (show aa_ w0 _ g s0_0 x1001_15 x1002_15 from by repeat (first | (with_reducible first | exact HI0.out | apply aa_.alloc | apply aa_.drewN | apply aa_.drew | apply aa_.set_1 | apply aa_.set_2) | exact HI0.out)) (rz HO_5.out) (by decide)) hk (fun _ h => h.2)) (fun _ h => h.1)); replace HO_6 := Aside0.mk (Kd.aB_ (Kd.cY_ (aa_.apart (show aa_ w0 _ g s0_0 x1001_15 x1002_15 from by repeat (first | (with_reducible first | exact HI0.out | apply aa_.alloc | apply aa_.drewN | apply aa_.drew | apply aa_.set_1 | apply aa_.set_2) | exact HI0.out)) (rz HO_6.out) (by decide)) hk (fun _ h => h.2)) (fun _ h => h.1)); replace HK := Aside0.mk (ab_.trans (by repeat (first | (with_reducible first | exact HK.out | apply ab_.set_ | apply aj_ | apply ak_ | apply ai_) | exact HK.out)) hk (.inl rfl)); replace HB := Aside0.mk (hb); replace HI0 := Aside0.mk (hi); (try clear hb)) | ((with_reducible refine ah_ (f := 88) rfl ?_); refine aN_ (some 51) rfl rfl Try.func88 (by kernel_rfl) rfl #[.slice Ao19 x5_1.length co19, .agg #[.string (rdOf ByteArray.empty y107 t113), .string t138, .int .i64 t139, .int .i64 t140]] rfl (by first | rfl | (simp only [lma_, lmc_, lmn_]; first | done | rfl)) ?_; (with_reducible refine (aX_.calls kj15 _ _ x5_1 (rdOf ByteArray.empty y107 t113) t138 t139 t140 t143 _ ?side1 ?side2 A38.out).mono ?_); (case side1 => exact cz (Kd.as_ HO_5.out).2.2); (case side2 => exact (Kd.as_ HO_5.out).2.1); rintro e w40 ⟨v144, rfl, ho0, hb⟩; refine ⟨_, rfl, ?_⟩; replace HO_6 := Aside0.mk (Kd.aT_ (rz HO_6.out) hb); have HO145 := Aside0.mk (Kd.bt_ (Kd.bB_ ho0 (Kd.R_lt (rz HO_5.out))) (bw_ (w := w) (g := g) (row := none) (by repeat (first | (with_reducible first | exact HK.out | apply ab_.set_ | apply aj_ | apply ak_ | apply ai_) | exact HK.out)))); replace HO_5 := Aside0.mk (Kd.aK_ (rz HO_5.out) (Kd.aZ_ ho0) hb); replace HK := Aside0.mk (ab_.trans (by repeat (first | (with_reducible first | exact HK.out | apply ab_.set_ | apply aj_ | apply ak_ | apply ai_) | exact HK.out)) (ab_.of_below hb g none) (.inl rfl)); replace HB := Aside0.mk (ac_ (by repeat (first | (with_reducible first | exact HB.out | apply bA_ | apply bN_ | apply bD_ | refine ag_ ?_ (aa_.ge HI0.out)) | exact HB.out)) hb); replace HI0 := Aside0.mk (aa_.below (by repeat (first | (with_reducible first | exact HI0.out | apply aa_.alloc | apply aa_.drewN | apply aa_.drew | apply aa_.set_1 | apply aa_.set_2) | exact HI0.out)) hb); (try clear hb); (try clear ho0)))
      go_roundg kj15
      case measure => have := HK1.out; have := HJ15.out; omega
      case rel => exact ⟨(t143), (wrap64 (x7_1 - 1)), (t141), (t142), (by first | rfl | (simp; done) | (simp [*]; done)), H', ⟨by have := HK1.out; have := HJ15.out; omega⟩, ⟨rz (Kd.aB_ HO145.out (fun _ hk => trivial))⟩, ⟨rz HO_6.out⟩, ⟨by repeat (first | (with_reducible first | exact HI0.out | apply aa_.alloc | apply aa_.drewN | apply aa_.drew | apply aa_.set_1 | apply aa_.set_2) | exact HI0.out)⟩, ⟨by repeat (first | (with_reducible first | exact HK.out | apply ab_.set_ | apply aj_ | apply ak_ | apply ai_) | exact HK.out)⟩, ⟨by repeat (first | (with_reducible first | exact HB.out | apply bA_ | apply bN_ | apply bD_ | refine ag_ ?_ (aa_.ge HI0.out)) | exact HB.out)⟩⟩
     subst c23
     have H1 : ((some (([] : List (S63)) : List (S63))).bind fun y121 => (if 0 ≤ t117 then (if t117 ≤ (x5_1.length : Int) then ((some (x5_1.take (t117 : Int).toNat : List (S63))).bind fun y124 => (if y121.length + y124.length < 2932031007402 then ((some (y121 ++ y124 : List (S63))).bind fun y128 => (if 0 ≤ (wrap64 (t117 + 1)) then (if (wrap64 (t117 + 1)) ≤ (x5_1.length : Int) then ((some (x5_1.drop ((wrap64 (t117 + 1)) : Int).toNat : List (S63))).bind fun y131 => (if y128.length + y131.length < 2932031007402 then (aw_.l0 kj15 (y128 ++ y131) y107 (wrap64 (x7_1 - 1)) s0_0 x1001_15 x1002_15) else (none))) else (none)) else (none))) else (none))) else (none)) else (none))) = some (r1, r2, r3) := by rw [if_pos rfl] at H; exact H
     clear H
     have H := H1
     clear H1
     obtain ⟨y121, hy121⟩ : ∃ y_ : List (S63), y_ = (([] : List (S63))) := ⟨_, rfl⟩
     replace H : (if 0 ≤ t117 then (if t117 ≤ (x5_1.length : Int) then ((some (x5_1.take (t117 : Int).toNat : List (S63))).bind fun y124 => (if y121.length + y124.length < 2932031007402 then ((some (y121 ++ y124 : List (S63))).bind fun y128 => (if 0 ≤ (wrap64 (t117 + 1)) then (if (wrap64 (t117 + 1)) ≤ (x5_1.length : Int) then ((some (x5_1.drop ((wrap64 (t117 + 1)) : Int).toNat : List (S63))).bind fun y131 => (if y128.length + y131.length < 2932031007402 then (aw_.l0 kj15 (y128 ++ y131) y107 (wrap64 (x7_1 - 1)) s0_0 x1001_15 x1002_15) else (none))) else (none)) else (none))) else (none))) else (none)) else (none)) = some (r1, r2, r3) := by first | (rw [hy121]; with_reducible exact H) | (have H2_ := (Option.bind_some _ _).symm.trans H; rw [hy121]; with_reducible exact H2_) | (have H2_ := (Option.bind_some _ _).symm.trans H; with_reducible exact H2_) | with_reducible exact H | (rw [hy121]; exact H) | exact H
     have Ny121 := Aside0.mk hy121
     clear hy121
     by_cases c24 : 0 ≤ t117
     rotate_left
     ·rw [if_neg c24] at H
      exact absurd H (by simp)
     rw [if_pos c24] at H
     have c24b0 := eq_true c24
     have c24b1 : decide (0 ≤ t117) = true := decide_eq_true c24
     clear c24
     by_cases c25 : t117 ≤ (x5_1.length : Int)
     rotate_left
     ·rw [if_neg c25] at H
      exact absurd H (by simp)
     rw [if_pos c25] at H
     have c25b0 := eq_true c25
     have c25b1 : decide (t117 ≤ (x5_1.length : Int)) = true := decide_eq_true c25
     clear c25
     obtain ⟨y124, hy124⟩ : ∃ y_ : List (S63), y_ = (x5_1.take (t117 : Int).toNat) := ⟨_, rfl⟩
     replace H : (if y121.length + y124.length < 2932031007402 then ((some (y121 ++ y124 : List (S63))).bind fun y128 => (if 0 ≤ (wrap64 (t117 + 1)) then (if (wrap64 (t117 + 1)) ≤ (x5_1.length : Int) then ((some (x5_1.drop ((wrap64 (t117 + 1)) : Int).toNat : List (S63))).bind fun y131 => (if y128.length + y131.length < 2932031007402 then (aw_.l0 kj15 (y128 ++ y131) y107 (wrap64 (x7_1 - 1)) s0_0 x1001_15 x1002_15) else (none))) else (none)) else (none))) else (none)) = some (r1, r2, r3) := by first | (rw [hy124]; with_reducible exact H) | (have H2_ := (Option.bind_some _ _).symm.trans H; rw [hy124]; with_reducible exact H2_) | (have H2_ := (Option.bind_some _ _).symm.trans H; with_reducible exact H2_) | with_reducible exact H | (rw [hy124]; exact H) | exact H
     have Ny124 := Aside0.mk hy124
     clear hy124
     by_cases c26 : y121.length + y124.length < 2932031007402
     rotate_left
     ·rw [if_neg c26] at H
      exact absurd H (by simp)
     rw [if_pos c26] at H
     have LMc26 := Aside0.mk c26
     clear c26
     obtain ⟨y128, hy128⟩ : ∃ y_ : List (S63), y_ = (y121 ++ y124) := ⟨_, rfl⟩
     replace H : (if 0 ≤ (wrap64 (t117 + 1)) then (if (wrap64 (t117 + 1)) ≤ (x5_1.length : Int) then ((some (x5_1.drop ((wrap64 (t117 + 1)) : Int).toNat : List (S63))).bind fun y131 => (if y128.length + y131.length < 2932031007402 then (aw_.l0 kj15 (y128 ++ y131) y107 (wrap64 (x7_1 - 1)) s0_0 x1001_15 x1002_15) else (none))) else (none)) else (none)) = some (r1, r2, r3) := by first | (rw [hy128]; with_reducible exact H) | (have H2_ := (Option.bind_some _ _).symm.trans H; rw [hy128]; with_reducible exact H2_) | (have H2_ := (Option.bind_some _ _).symm.trans H; with_reducible exact H2_) | with_reducible exact H | (rw [hy128]; exact H) | exact H
     have Ny128 := Aside0.mk hy128
     clear hy128
     obtain ⟨ji27, hji27⟩ : ∃ j_ : Int, (wrap64 (t117 + 1)) = j_ := ⟨_, rfl⟩
     replace H : (if 0 ≤ (ji27) then (if (ji27) ≤ (x5_1.length : Int) then ((some (x5_1.drop ((ji27) : Int).toNat : List (S63))).bind fun y131 => (if y128.length + y131.length < 2932031007402 then (aw_.l0 kj15 (y128 ++ y131) y107 (wrap64 (x7_1 - 1)) s0_0 x1001_15 x1002_15) else (none))) else (none)) else (none)) = some (r1, r2, r3) := by first | (rw [hji27] at H; exact H) | (simp only [hji27] at H ⊢; exact H)
     have hji27w : (IntKind.i64.wrap (t117 + 1)) = ji27 := (i64_w _).trans hji27
     by_cases c28 : 0 ≤ (ji27)
     rotate_left
     ·rw [if_neg c28] at H
      exact absurd H (by simp)
     rw [if_pos c28] at H
     have c28b0 := eq_true c28
     have c28b1 : decide (0 ≤ (ji27)) = true := decide_eq_true c28
     clear c28
     by_cases c29 : (ji27) ≤ (x5_1.length : Int)
     rotate_left
     ·rw [if_neg c29] at H
      exact absurd H (by simp)
     rw [if_pos c29] at H
     have c29b0 := eq_true c29
     have c29b1 : decide ((ji27) ≤ (x5_1.length : Int)) = true := decide_eq_true c29
     clear c29
     obtain ⟨y131, hy131⟩ : ∃ y_ : List (S63), y_ = (x5_1.drop ((ji27) : Int).toNat) := ⟨_, rfl⟩
     replace H : (if y128.length + y131.length < 2932031007402 then (aw_.l0 kj15 (y128 ++ y131) y107 (wrap64 (x7_1 - 1)) s0_0 x1001_15 x1002_15) else (none)) = some (r1, r2, r3) := by first | (rw [hy131]; with_reducible exact H) | (have H2_ := (Option.bind_some _ _).symm.trans H; rw [hy131]; with_reducible exact H2_) | (have H2_ := (Option.bind_some _ _).symm.trans H; with_reducible exact H2_) | with_reducible exact H | (rw [hy131]; exact H) | exact H
     have Ny131 := Aside0.mk hy131
     clear hy131
     by_cases c30 : y128.length + y131.length < 2932031007402
     rotate_left
     ·rw [if_neg c30] at H
      exact absurd H (by simp)
     rw [if_pos c30] at H
     have LMc30 := Aside0.mk c30
     clear c30
     obtain ⟨y135, hy135⟩ : ∃ y_ : List (S63), y_ = (y128 ++ y131) := ⟨_, rfl⟩
     replace H : (aw_.l0 kj15 y135 y107 (wrap64 (x7_1 - 1)) s0_0 x1001_15 x1002_15) = some (r1, r2, r3) := by first | (rw [hy135]; with_reducible exact H) | (have H2_ := (Option.bind_some _ _).symm.trans H; rw [hy135]; with_reducible exact H2_) | (have H2_ := (Option.bind_some _ _).symm.trans H; with_reducible exact H2_) | with_reducible exact H | (rw [hy135]; exact H) | exact H
     have Ny135 := Aside0.mk hy135
     clear hy135
     have H' := Aside0.mk H
     clear H
     go_wp2_with (first | ((with_reducible refine aH_ (N := 35) rfl ?_); refine Kd.R_lit k63 _ 63 ?hg (N := 35) ?hd (xs := ([] : List (S63))) (inner := []) (ok := fun _ => True) (okp := fun _ => True) ?hr ?hp (fun _ hk => hk) trivial (Below.refl _ _) (Nat.le_refl _) (by simp) ?_; (case hd => rfl); (case hg => rfl); (case hr => (go_simp; try rfl)); (case hp => exact (Reps.none _ _)); intro v122 w31 ho32 hb hg_ hnew_; clear hg_ hnew_; (first | rw [← Ny121.out] at ho32 | (simp only [Int.reduceToNat] at ho32; rw [← Ny121.out] at ho32)); replace HO_6 := Aside0.mk (Kd.aT_ (rz HO_6.out) hb); have HO123 := Aside0.mk (Kd.bt_ (Kd.bB_ ho32 (Kd.R_lt (rz HO_5.out))) (bw_ (w := w) (g := g) (row := none) (by repeat (first | (with_reducible first | exact HK.out | apply ab_.set_ | apply aj_ | apply ak_ | apply ai_) | exact HK.out)))); replace HO_5 := Aside0.mk (Kd.aK_ (rz HO_5.out) (Kd.aZ_ ho32) hb); replace HK := Aside0.mk (ab_.trans (by repeat (first | (with_reducible first | exact HK.out | apply ab_.set_ | apply aj_ | apply ak_ | apply ai_) | exact HK.out)) (ab_.of_below hb g none) (.inl rfl)); replace HB := Aside0.mk (ac_ (by repeat (first | (with_reducible first | exact HB.out | apply bA_ | apply bN_ | apply bD_ | refine ag_ ?_ (aa_.ge HI0.out)) | exact HB.out)) hb); replace HI0 := Aside0.mk (aa_.below (by repeat (first | (with_reducible first | exact HI0.out | apply aa_.alloc | apply aa_.drewN | apply aa_.drew | apply aa_.set_1 | apply aa_.set_2) | exact HI0.out)) hb); clear hb ho32; have q33 : (t117 : Int) ≤ ((x5_1.length : Int) : Int) := of_decide_eq_true (by assumption); obtain ⟨i033, hi033, _, hsz33, _⟩ := info_parts cW_; have hroom33 : x5_1.length ≤ co19 := (Kd.as_ HO_5.out).2.1; have hC33 : Kd.C k63 _ Ao19 x5_1.length x5_1 := (Kd.as_ HO_5.out).2.2; have hcut33 := cut_to (P := Try.prog) 27 63 .i64 Try.underlying27 hi033 Ao19 x5_1.length co19 t117 (of_decide_eq_true (by assumption)) q33 hroom33; have hr33 := Kd.C_take (m := (t117 : Int).toNat) hC33 (by omega); have hy33 : y124.length = (t117 : Int).toNat := (by rw [Ny124.out, List.length_take]; omega); rw [← Ny124.out] at hr33; rw [← hy33] at hcut33; have HR127 := Aside0.mk hr33; have HC127 := Aside0.mk (show y124.length ≤ co19 from by omega); clear hr33 hC33 hroom33 hi033 hsz33; have KY33 := Aside0.mk hy33; clear hy33; have KL33 := Aside0.mk (show (t117 : Int).toNat ≤ x5_1.length from by omega); replace q33 := eq_true q33) | ((with_reducible refine be_ (b := .append) (xs := #[.tmp 35, .tmp 38]) rfl ?_); at_builtin; refine Kd.cE_ k63 w.heap.size rfl (.tmp 35) (.tmp 38) 27 63 (.agg #[(.string ⟨#[]⟩), (.string ⟨#[]⟩), (.int .i64 0), (.int .i64 0)]) 48 rfl Try.underlying27 cW_ rfl (by decide) (by omega) v122 y121 y124 _ _ _ (fun k_ => some k_ ≠ (.slice Ao19 x5_1.length co19 : Value).ownBlock) (fun _ => False) rfl rfl ?aO ?aR (fun _ _ h => h) (fun _ h => h.elim) ?aF (Below.refl _ _) ?aS ?aL ?_; (case aR => repeat (first | exact (by repeat (first | (with_reducible exact HR127.out) | (with_reducible first | refine Kd.C_alloc ?_ _ | refine Kd.C_drewN ?_ _ | refine Kd.C_drew ?_) | exact HR127.out)) | (with_reducible first | refine Kd.C_alloc ?_ _ | refine Kd.C_drewN ?_ _ | refine Kd.C_drew ?_))); (case aF => exact (fun k_ hk => Kd.fresh' (Kd.R_lt (rz HO_5.out)) k_ hk)); (case aO => exact (rz (Kd.aB_ HO123.out (fun _ hk => hk.2)))); (case aS => exact (bw_ (w := w) (g := g) (row := none) (by repeat (first | (with_reducible first | exact HK.out | apply ab_.set_ | apply aj_ | apply ak_ | apply ai_) | exact HK.out)))); (case aL => have := LMc26.out; omega); intro v129 w34 ho hb hg hat; rw [← Ny128.out] at ho; replace HO_6 := Aside0.mk (Kd.R_over' (rz HO_6.out) (Kd.cR_ (rz HO123.out)) (by decide) hg); replace HB := Aside0.mk (dh_ (by repeat (first | (with_reducible first | exact HB.out | apply bA_ | apply bN_ | apply bD_ | refine ag_ ?_ (aa_.ge HI0.out)) | exact HB.out)) HL.out hb); replace HI0 := Aside0.mk (aa_.grown (by repeat (first | (with_reducible first | exact HI0.out | apply aa_.alloc | apply aa_.drewN | apply aa_.drew | apply aa_.set_1 | apply aa_.set_2) | exact HI0.out)) hg (aa_.own_ne HI0.out HO123.out (by decide))); replace HK := Aside0.mk (ab_.trans (by repeat (first | (with_reducible first | exact HK.out | apply ab_.set_ | apply aj_ | apply ak_ | apply ai_) | exact HK.out)) (ab_.of_grown hg g) (Kd.R_base2 HO123.out)); replace HR127 := Aside0.mk ((show Kd.C k63 w34 Ao19 y124.length y124 from by rw [Ny124.out]; exact Kd.C_take (m := (t117 : Int).toNat) ((Kd.as_ (Kd.dn_ (ok := (fun _ => True)) (rz HO_5.out) hg hat)).2.2) KL33.out)); replace HO_5 := Aside0.mk (Kd.dn_ (ok := (fun _ => True)) (rz HO_5.out) hg hat); have HO130 := Aside0.mk (ho); clear HO123; clear ho hb hg hat; have q35 : ((ji27) : Int) ≤ ((x5_1.length : Int) : Int) := of_decide_eq_true (by assumption); obtain ⟨i035, hi035, _, hsz35, _⟩ := info_parts cW_; have hroom35 : x5_1.length ≤ co19 := (Kd.as_ HO_5.out).2.1; have hC35 : Kd.C k63 _ Ao19 x5_1.length x5_1 := (Kd.as_ HO_5.out).2.2; have q035 : (0 : Int) ≤ ((ji27) : Int) := of_decide_eq_true (by assumption); have hcut35 := cut_from (P := Try.prog) 27 63 .i64 Try.underlying27 hi035 4 hsz35 Ao19 x5_1.length co19 (ji27) q035 q35; have hr35 := Kd.C_drop (m := ((ji27) : Int).toNat) (c := co19) hC35 (by omega) hroom35; obtain ⟨A35, hA35⟩ : ∃ A1, A1 = (if co19 = ((ji27) : Int).toNat then Ao19 else (Ao19 : Option Addr).map (·.add (((ji27) : Int).toNat * 4))) := ⟨_, rfl⟩; obtain ⟨c35, hc35⟩ : ∃ c1, c1 = co19 - ((ji27) : Int).toNat := ⟨_, rfl⟩; have hy35 : y131.length = x5_1.length - ((ji27) : Int).toNat := (by rw [Ny131.out, List.length_drop] <;> omega); rw [show (x5_1).drop ((ji27) : Int).toNat = y131 from Ny131.out.symm] at hr35; replace hr35 : Kd.C k63 _ A35 y131.length y131 := (by rw [hA35]; exact hr35); rw [← hy35, ← hA35, ← hc35] at hcut35; have HR134 := Aside0.mk hr35; have HC134 := Aside0.mk (show y131.length ≤ c35 from by rw [hy35, hc35]; exact Nat.sub_le_sub_right hroom35 _); clear hr35 hC35 hroom35 hi035 hsz35 hc35; have KY35 := Aside0.mk hy35; have KA35 := Aside0.mk hA35; clear hy35 hA35; have KL35 := Aside0.mk (show ((ji27) : Int).toNat ≤ x5_1.length from by omega); replace q35 := eq_true q35) | ((with_reducible refine be_ (b := .append) (xs := #[.tmp 40, .tmp 44]) rfl ?_); at_builtin; refine Kd.cE_ k63 w.heap.size rfl (.tmp 40) (.tmp 44) 27 63 (.agg #[(.string ⟨#[]⟩), (.string ⟨#[]⟩), (.int .i64 0), (.int .i64 0)]) 48 rfl Try.underlying27 cW_ rfl (by decide) (by omega) v129 y128 y131 _ _ _ (fun k_ => some k_ ≠ (.slice Ao19 x5_1.length co19 : Value).ownBlock) (fun _ => False) rfl rfl ?aO ?aR (fun _ _ h => h) (fun _ h => h.elim) ?aF (Below.refl _ _) ?aS ?aL ?_; (case aR => repeat (first | exact (by repeat (first | (with_reducible exact HR134.out) | (with_reducible first | refine Kd.C_alloc ?_ _ | refine Kd.C_drewN ?_ _ | refine Kd.C_drew ?_) | exact HR134.out)) | (with_reducible first | refine Kd.C_alloc ?_ _ | refine Kd.C_drewN ?_ _ | refine Kd.C_drew ?_))); (case aF => exact (fun k_ hk => Kd.fresh' (Kd.R_lt (rz HO_5.out)) k_ hk)); (case aO => exact (rz HO130.out)); (case aS => exact (bw_ (w := w) (g := g) (row := none) (by repeat (first | (with_reducible first | exact HK.out | apply ab_.set_ | apply aj_ | apply ak_ | apply ai_) | exact HK.out)))); (case aL => have := LMc30.out; omega); intro v136 w36 ho hb hg hat; rw [← Ny135.out] at ho; replace HO_6 := Aside0.mk (Kd.R_over' (rz HO_6.out) (Kd.cR_ (rz HO130.out)) (by decide) hg); replace HB := Aside0.mk (dh_ (by repeat (first | (with_reducible first | exact HB.out | apply bA_ | apply bN_ | apply bD_ | refine ag_ ?_ (aa_.ge HI0.out)) | exact HB.out)) HL.out hb); replace HI0 := Aside0.mk (aa_.grown (by repeat (first | (with_reducible first | exact HI0.out | apply aa_.alloc | apply aa_.drewN | apply aa_.drew | apply aa_.set_1 | apply aa_.set_2) | exact HI0.out)) hg (aa_.own_ne HI0.out HO130.out (by decide))); replace HK := Aside0.mk (ab_.trans (by repeat (first | (with_reducible first | exact HK.out | apply ab_.set_ | apply aj_ | apply ak_ | apply ai_) | exact HK.out)) (ab_.of_grown hg g) (Kd.R_base2 HO130.out)); replace HR127 := Aside0.mk ((show Kd.C k63 w36 Ao19 y124.length y124 from by rw [Ny124.out]; exact Kd.C_take (m := (t117 : Int).toNat) ((Kd.as_ (Kd.dn_ (ok := (fun _ => True)) (rz HO_5.out) hg hat)).2.2) KL33.out)); replace HR134 := Aside0.mk ((show Kd.C k63 w36 A35 y131.length y131 from by rw [Ny131.out, KA35.out]; exact Kd.C_drop (m := ((ji27) : Int).toNat) (c := co19) ((Kd.as_ (Kd.dn_ (ok := (fun _ => True)) (rz HO_5.out) hg hat)).2.2) KL35.out ((Kd.as_ (Kd.dn_ (ok := (fun _ => True)) (rz HO_5.out) hg hat)).2.1))); replace HO_5 := Aside0.mk (Kd.dn_ (ok := (fun _ => True)) (rz HO_5.out) hg hat); have HO137 := Aside0.mk (ho); clear HO130; clear ho hb hg hat))
     go_roundg kj15
     case measure => have := HK1.out; have := HJ15.out; omega
     case rel => exact ⟨(y135), (wrap64 (x7_1 - 1)), (x1001_15), (x1002_15), (by first | rfl | (simp; done) | (simp [*]; done)), H', ⟨by have := HK1.out; have := HJ15.out; omega⟩, ⟨rz (Kd.aB_ HO137.out (fun _ hk => trivial))⟩, ⟨rz HO_6.out⟩, ⟨by repeat (first | (with_reducible first | exact HI0.out | apply aa_.alloc | apply aa_.drewN | apply aa_.drew | apply aa_.set_1 | apply aa_.set_2) | exact HI0.out)⟩, ⟨by repeat (first | (with_reducible first | exact HK.out | apply ab_.set_ | apply aj_ | apply ak_ | apply ai_) | exact HK.out)⟩, ⟨by repeat (first | (with_reducible first | exact HB.out | apply bA_ | apply bN_ | apply bD_ | refine ag_ ?_ (aa_.ge HI0.out)) | exact HB.out)⟩⟩
def bZ_.f (k : Nat) (l0 : List Int) (l1 : List (S63)) : Option ((List (S63))) := (cA_.f l0).bind fun bt101 => ((aw_.f k bt101.1 bt101.2.1 bt101.2.2 l1).bind fun bt105 => (some bt105.1))
set_option maxHeartbeats 8000000 in
set_option maxRecDepth 100000 in
theorem bZ_.calls (k : Nat) (A0 : Option Addr) (c0 : Nat) (l0 : List Int) (A1 : Option Addr) (c1 : Nat) (l1 : List (S63)) (r : List (S63)) (w : World) (hr0 : Kd.C (Kd.int .u8) w A0 l0.length l0) (hc0 : l0.length ≤ c0) (hr1 : Kd.C k63 w A1 l1.length l1) (hc1 : l1.length ≤ c1) (h : bZ_.f k l0 l1 = some r) :
  Calls Try.prog 28 #[.slice A0 l0.length c0, .slice A1 l1.length c1] w fun e w' => ∃ v0_ : Value, e = .returned (v0_) ∧ Kd.R k63 63 w' w.heap.size (fun _ => True) v0_ r ∧ Below w.heap.size w w' := by
 have HR0 := Aside0.mk hr0
 have HC0 := Aside0.mk hc0
 clear hr0 hc0
 have HR1 := Aside0.mk hr1
 have HC1 := Aside0.mk hc1
 clear hr1 hc1
 have HB := Aside0.mk (Below.refl w.heap.size w)
 have H : ((cA_.f l0).bind fun bt101 => ((aw_.f k bt101.1 bt101.2.1 bt101.2.2 l1).bind fun bt105 => (some bt105.1))) = some r := h
 clear h
 replace H := Option.bind_eq_some_iff.mp H
 obtain ⟨⟨t101, t102, t103⟩, A30, H⟩ := H
 (try dsimp only at H)
 have A3 := Aside0.mk A30
 clear A30
 replace H := Option.bind_eq_some_iff.mp H
 obtain ⟨⟨t105, t108, t109⟩, A40, H⟩ := H
 (try dsimp only at H)
 have A4 := Aside0.mk A40
 clear A40
 obtain rfl := Option.some.inj H
 go_enter Try.func28, Try.ntmps28
 go_wp2_with (first | ((with_reducible refine ah_ (f := 59) rfl ?_); refine aN_ (some 7) rfl rfl Try.func59 (by kernel_rfl) rfl #[.slice A0 l0.length c0] rfl (by first | rfl | (simp only [lma_, lmc_, lmn_]; first | done | rfl)) ?_; (with_reducible refine (cA_.calls _ _ l0 t101 t102 t103 w _ ?side1 ?side2 ?side3 A3.out).mono ?_); (case side1 => exact bz HB.out); (case side2 => exact HR0.out); (case side3 => exact HC0.out); rintro e w5 ⟨g104, rfl, hi, hb, hb2⟩; refine ⟨_, rfl, ?_⟩; replace HB := Aside0.mk (hb); have HI104 := Aside0.mk (hi); (try clear hb)) | ((with_reducible refine ah_ (f := 61) rfl ?_); refine aN_ (some 10) rfl rfl Try.func61 (by kernel_rfl) rfl #[.pointer (some ⟨g104, 0, none⟩), .slice A1 l1.length c1] rfl (by first | rfl | (simp only [lma_, lmc_, lmn_]; first | done | rfl)) ?_; (with_reducible refine (aw_.calls k g104 t101 t102 t103 _ _ l1 t105 t108 t109 w _ ?side1 ?side2 ?side3 ?side4 A4.out).mono ?_); (case side1 => repeat (first | (with_reducible first | exact HI104.out | apply aa_.alloc | apply aa_.drewN | apply aa_.drew | apply aa_.set_1 | apply aa_.set_2) | exact HI104.out)); (case side2 => repeat (first | (with_reducible first | exact HB.out | apply bA_ | apply bN_ | apply bD_ | refine ag_ ?_ (aa_.ge HI104.out)) | exact HB.out)); (case side3 => exact Kd.C_foot_came k63_heap HR1.out (by repeat (first | (with_reducible first | exact HB.out | apply bA_ | apply bN_ | apply bD_ | refine ag_ ?_ (aa_.ge HI104.out)) | exact HB.out)) (aa_.ge HI104.out)); (case side4 => exact HC1.out); rintro e w6 ⟨v106, rfl, ho0, hi, hb, hk⟩; refine ⟨_, rfl, ?_⟩; have HO107 := Aside0.mk (Kd.bt_ ho0 (ae_ (by repeat (first | (with_reducible first | exact HB.out | apply bA_ | apply bN_ | apply bD_ | refine ag_ ?_ (aa_.ge HI104.out)) | exact HB.out)))); replace HB := Aside0.mk (hb); replace HI104 := Aside0.mk (hi); (try clear hb); (try clear ho0)))
 go_ret
 exact ⟨_, by first | rfl | (simp [*, ao_, an_] <;> rfl), rz HO107.out, by repeat (first | (with_reducible first | exact HB.out | apply bA_ | apply bN_ | apply bD_ | refine ag_ ?_ (aa_.ge HI104.out)) | exact HB.out)⟩
theorem eqA63 (d : Nat) (w : World) (x0 y0 : ByteArray) (x1 y1 : ByteArray) (x2 y2 : Int) (x3 y3 : Int) :
  (Op.equalIn (d + 3) 63 (.agg #[.string x0, .string x1, .int .i64 x2, .int .i64 x3]) (.agg #[.string y0, .string y1, .int .i64 y2, .int .i64 y3])).run Try.prog w = .ok (x0.toList == y0.toList && ((x1.toList == y1.toList && (x2 == y2 && (x3 == y3))))) w := by
 refine eqA_of Try.underlying63 (by kernel_rfl) ?_
 refine eqf_cons (by rfl) (by go_simp; rfl) (by go_simp; rfl) (by go_simp) ?_
 exact eqf_last (by rfl) (by go_simp) (by go_simp) (eqA61 (d + 0) w _ _ _ _ _ _)
end Go.Proofs.Ytiheginanghhjaa.Q
namespace Go.Proofs.Ytiheginanghhjaa.Q
open Go.RowKit Go.Proofs.YtiheginanghhjaaW.PrintWords Go.Proofs.YtiheginanghhjaaW.PrintLast Go.Proofs.YtiheginanghhjaaW.PrintMore
attribute [local go_sem] aP_ aQ_ bh_ bg_ aE_ aD_ aR_ aO_
attribute [local go_sem high] eqA63
def bU_.l0 : Nat → List (S63) → List (S63) → Int → Option (Bool)
 | 0, _, _, _ => none
 | k + 1, x0, x1, x5 => if x5 < (x0.length : Int) then (if 0 ≤ x5 then (if x5 < (x1.length : Int) then (if (!((((af_ x0 x5).f0).toList) == (((af_ x1 x5).f0).toList)) || ((!((((af_ x0 x5).f1.f0).toList) == (((af_ x1 x5).f1.f0).toList)) || (!(((af_ x0 x5).f1.f1) == ((af_ x1 x5).f1.f1)) || (!(((af_ x0 x5).f1.f2) == ((af_ x1 x5).f1.f2))))))) = true then (some false) else (bU_.l0 k x0 x1 (wrap64 (x5 + 1)))) else (none)) else (none)) else (some true)
def bU_.f (k : Nat) (l0 : List (S63)) (l1 : List (S63)) : Option (Bool) := if (l0.length : Int) = (l1.length : Int) then (bU_.l0 k l0 l1 0) else (some false)
set_option maxHeartbeats 8000000 in
set_option maxRecDepth 100000 in
theorem bU_.calls (k : Nat) (A0 : Option Addr) (c0 : Nat) (l0 : List (S63)) (A1 : Option Addr) (c1 : Nat) (l1 : List (S63)) (r : Bool) (w : World) (hr0 : Kd.C k63 w A0 l0.length l0) (hc0 : l0.length ≤ c0) (hr1 : Kd.C k63 w A1 l1.length l1) (hc1 : l1.length ≤ c1) (h : bU_.f k l0 l1 = some r) :
  Calls Try.prog 62 #[.slice A0 l0.length c0, .slice A1 l1.length c1] w fun e w' => e = .returned (.bool r) ∧ aq_ w w' := by
 have hu63 := Try.underlying63
 have HR0 := Aside0.mk hr0
 have HC0 := Aside0.mk hc0
 clear hr0 hc0
 have HR1 := Aside0.mk hr1
 have HC1 := Aside0.mk hc1
 clear hr1 hc1
 have H : (if (l0.length : Int) = (l1.length : Int) then (bU_.l0 k l0 l1 0) else (some false)) = some r := h
 clear h
 by_cases c3 : (l0.length : Int) = (l1.length : Int)
 rotate_left
 ·rw [if_neg c3] at H
  have c3b0 : ((l0.length : Int) == (l1.length : Int)) = false := beq_eq_false_iff_ne.mpr c3
  have c3b1 : ((l0.length : Int) != (l1.length : Int)) = true := bne_iff_ne.mpr c3
  have c3b2 : (l0.length == l1.length) = false := by first | simpa using c3 | (simp at c3 ⊢; omega)
  obtain rfl := Option.some.inj H
  go_enter Try.func62, Try.ntmps62
  go_wp2
  repeat (go_quiet (fail); try go_wp2)
  go_ret
  exact ⟨by first | rfl | (simp; done) | (simp [*]; done), by repeat (first | exact aq_.refl _ | apply aq_.step)⟩
 rw [if_pos c3] at H
 have c3b0 : ((l0.length : Int) == (l1.length : Int)) = true := beq_iff_eq.mpr c3
 have c3b1 : ((l0.length : Int) != (l1.length : Int)) = false := bne_eq_false_iff_eq.mpr c3
 have c3b2 : (l0.length == l1.length) = true := by first | simpa using c3 | (simp at c3 ⊢; omega)
 clear c3
 have H' := Aside0.mk H
 clear H
 go_enter Try.func62, Try.ntmps62
 go_wp2
 repeat (go_quiet (fail); try go_wp2)
 (try simp only [Act.put, lsa_, ls0_, ls1_])
 go_loopg [5] k (fun kq v5 w' => ∃ (x5_1 : Int), v5 = .int .i64 x5_1 ∧ Aside0 (bU_.l0 kq l0 l1 x5_1 = some r) ∧ Aside0 (kq ≤ k) ∧ aq_ w w')
 case atStart => exact ⟨(0), (by first | rfl | (simp; done) | (simp [*]; done)), H', ⟨Nat.le_refl _⟩, by repeat (first | exact aq_.refl _ | apply aq_.step)⟩
 case round =>
  clear H'
  obtain ⟨x5_1, rfl, HA, HK1, ⟨m1, rfl⟩⟩ := hrel
  cases gk with
  | zero => exact absurd HA.out (by simp [bU_.l0])
  | succ k1 =>
   have H := HA.out
   clear HA
   simp only [bU_.l0] at H
   by_cases c4 : x5_1 < (l0.length : Int)
   rotate_left
   ·rw [if_neg c4] at H
    have c4b0 : decide (x5_1 < (l0.length : Int)) = false := decide_eq_false c4
    clear c4
    obtain rfl := Option.some.inj H
    go_wp2
    repeat (go_quiet (fail); try go_wp2)
    go_ret
    exact ⟨by first | rfl | (simp; done) | (simp [*]; done), by repeat (first | exact aq_.refl _ | apply aq_.step)⟩
   rw [if_pos c4] at H
   have c4b0 : decide (x5_1 < (l0.length : Int)) = true := decide_eq_true c4
   clear c4
   by_cases c5 : 0 ≤ x5_1
   rotate_left
   ·rw [if_neg c5] at H
    exact absurd H (by simp)
   rw [if_pos c5] at H
   have c5b0 : decide (0 ≤ x5_1) = true := decide_eq_true c5
   clear c5
   by_cases c6 : x5_1 < (l1.length : Int)
   rotate_left
   ·rw [if_neg c6] at H
    exact absurd H (by simp)
   rw [if_pos c6] at H
   have c6b0 : decide (x5_1 < (l1.length : Int)) = true := decide_eq_true c6
   clear c6
   by_cases c7 : (!((((af_ l0 x5_1).f0).toList) == (((af_ l1 x5_1).f0).toList)) || ((!((((af_ l0 x5_1).f1.f0).toList) == (((af_ l1 x5_1).f1.f0).toList)) || (!(((af_ l0 x5_1).f1.f1) == ((af_ l1 x5_1).f1.f1)) || (!(((af_ l0 x5_1).f1.f2) == ((af_ l1 x5_1).f1.f2))))))) = true
   rotate_left
   ·rw [if_neg c7] at H
    have c7b0 : (!((((af_ l0 x5_1).f0).toList) == (((af_ l1 x5_1).f0).toList)) || ((!((((af_ l0 x5_1).f1.f0).toList) == (((af_ l1 x5_1).f1.f0).toList)) || (!(((af_ l0 x5_1).f1.f1) == ((af_ l1 x5_1).f1.f1)) || (!(((af_ l0 x5_1).f1.f2) == ((af_ l1 x5_1).f1.f2))))))) = false := by simpa using c7
    clear c7
    have H' := Aside0.mk H
    clear H
    have p101 : 0 ≤ (x5_1 : Int) := of_decide_eq_true (by assumption)
    have q101 : x5_1 < (l0.length : Int) := of_decide_eq_true (by assumption)
    obtain ⟨ad101, e101, hx101_0, hx101_1, hx101_2, hx101_3⟩ := cH_ HR0.out x5_1 p101 q101
    cases e101
    replace p101 := eq_true p101
    replace q101 := eq_true q101
    have p102 : 0 ≤ (x5_1 : Int) := of_decide_eq_true (by assumption)
    have q102 : x5_1 < (l1.length : Int) := of_decide_eq_true (by assumption)
    obtain ⟨ad102, e102, hx102_0, hx102_1, hx102_2, hx102_3⟩ := cH_ HR1.out x5_1 p102 q102
    cases e102
    replace p102 := eq_true p102
    replace q102 := eq_true q102
    go_wp2
    repeat (go_quiet (fail); try go_wp2)
    go_roundg k1
    case measure => have := HK1.out; omega
    case rel => exact ⟨(wrap64 (x5_1 + 1)), (by first | rfl | (simp; done) | (simp [*]; done)), H', ⟨by have := HK1.out; omega⟩, by repeat (first | exact aq_.refl _ | apply aq_.step)⟩
   rw [if_pos c7] at H
   have c7b0 : (!((((af_ l0 x5_1).f0).toList) == (((af_ l1 x5_1).f0).toList)) || ((!((((af_ l0 x5_1).f1.f0).toList) == (((af_ l1 x5_1).f1.f0).toList)) || (!(((af_ l0 x5_1).f1.f1) == ((af_ l1 x5_1).f1.f1)) || (!(((af_ l0 x5_1).f1.f2) == ((af_ l1 x5_1).f1.f2))))))) = true := c7
   clear c7
   obtain rfl := Option.some.inj H
   have p101 : 0 ≤ (x5_1 : Int) := of_decide_eq_true (by assumption)
   have q101 : x5_1 < (l0.length : Int) := of_decide_eq_true (by assumption)
   obtain ⟨ad101, e101, hx101_0, hx101_1, hx101_2, hx101_3⟩ := cH_ HR0.out x5_1 p101 q101
   cases e101
   replace p101 := eq_true p101
   replace q101 := eq_true q101
   have p102 : 0 ≤ (x5_1 : Int) := of_decide_eq_true (by assumption)
   have q102 : x5_1 < (l1.length : Int) := of_decide_eq_true (by assumption)
   obtain ⟨ad102, e102, hx102_0, hx102_1, hx102_2, hx102_3⟩ := cH_ HR1.out x5_1 p102 q102
   cases e102
   replace p102 := eq_true p102
   replace q102 := eq_true q102
   go_wp2
   repeat (go_quiet (fail); try go_wp2)
   go_ret
   exact ⟨by first | rfl | (simp; done) | (simp [*]; done), by repeat (first | exact aq_.refl _ | apply aq_.step)⟩
end Go.Proofs.Ytiheginanghhjaa.Q
namespace Go.Proofs.Ytiheginanghhjaa.Q
open Go.RowKit Go.Proofs.YtiheginanghhjaaW.PrintWords Go.Proofs.YtiheginanghhjaaW.PrintLast Go.Proofs.YtiheginanghhjaaW.PrintMore
attribute [local go_sem] aP_ aQ_ bh_ bg_ aE_ aD_ aR_ aO_
def bk_.f (k : Nat) (l0 : List (S63)) (l1 : List (S63)) : Option (Bool) := (bU_.f k l0 l1).bind fun t101 => (some t101)
set_option maxHeartbeats 8000000 in
set_option maxRecDepth 100000 in
theorem bk_.calls (k : Nat) (A0 : Option Addr) (c0 : Nat) (l0 : List (S63)) (A1 : Option Addr) (c1 : Nat) (l1 : List (S63)) (r : Bool) (w : World) (hr0 : Kd.C k63 w A0 l0.length l0) (hc0 : l0.length ≤ c0) (hr1 : Kd.C k63 w A1 l1.length l1) (hc1 : l1.length ≤ c1) (h : bk_.f k l0 l1 = some r) :
  Calls Try.prog 29 #[.slice A0 l0.length c0, .slice A1 l1.length c1] w fun e w' => e = .returned (.bool r) ∧ aq_ w w' := by
 have HR0 := Aside0.mk hr0
 have HC0 := Aside0.mk hc0
 clear hr0 hc0
 have HR1 := Aside0.mk hr1
 have HC1 := Aside0.mk hc1
 clear hr1 hc1
 have H : ((bU_.f k l0 l1).bind fun t101 => (some t101)) = some r := h
 clear h
 replace H := Option.bind_eq_some_iff.mp H
 obtain ⟨t101, A30, H⟩ := H
 (try dsimp only at H)
 have A3 := Aside0.mk A30
 clear A30
 obtain rfl := Option.some.inj H
 go_enter Try.func29, Try.ntmps29
 go_wp2_with (first | ((with_reducible refine ah_ (f := 62) rfl ?_); refine aN_ (some 7) rfl rfl Try.func62 (by kernel_rfl) rfl #[.slice A0 l0.length c0, .slice A1 l1.length c1] rfl (by first | rfl | (simp only [lma_, lmc_, lmn_]; first | done | rfl)) ?_; (with_reducible refine (bU_.calls k _ _ l0 _ _ l1 t101 _ ?side1 ?side2 ?side3 ?side4 A3.out).mono ?_); (case side1 => exact cz HR0.out); (case side2 => exact HC0.out); (case side3 => exact cz HR1.out); (case side4 => exact HC1.out); rintro e w' ⟨rfl, ⟨nd, rfl⟩⟩; refine ⟨_, rfl, ?_⟩))
 go_ret
 exact ⟨by first | rfl | (simp; done) | (simp [*]; done), by repeat (first | exact aq_.refl _ | apply aq_.step)⟩
def cv_.f (a0 : Int) : Option (Bool) := if a0 ≥ 97 then (some (decide (a0 ≤ 122))) else (some false)
set_option maxHeartbeats 8000000 in
set_option maxRecDepth 100000 in
theorem cv_.calls (a0 : Int) (r : Bool) (w : World) (h : cv_.f a0 = some r) :
  Calls Try.prog 106 #[.int .u8 a0] w fun e w' => e = .returned (.bool r) ∧ aq_ w w' := by
 have H : (if a0 ≥ 97 then (some (decide (a0 ≤ 122))) else (some false)) = some r := h
 clear h
 by_cases c2 : a0 ≥ 97
 rotate_left
 ·rw [if_neg c2] at H
  have c2b0 : decide (97 ≤ a0) = false := decide_eq_false c2
  clear c2
  obtain rfl := Option.some.inj H
  go_enter Try.func106, Try.ntmps106
  go_wp2
  go_ret
  exact ⟨by first | rfl | (simp; done) | (simp [*]; done), by repeat (first | exact aq_.refl _ | apply aq_.step)⟩
 rw [if_pos c2] at H
 have c2b0 : decide (97 ≤ a0) = true := decide_eq_true c2
 clear c2
 obtain rfl := Option.some.inj H
 go_enter Try.func106, Try.ntmps106
 go_wp2
 go_ret
 exact ⟨by first | rfl | (simp; done) | (simp [*]; done), by repeat (first | exact aq_.refl _ | apply aq_.step)⟩
def cZ_.f (a0 : Int) : Option (Bool) := if a0 ≥ 48 then (some (decide (a0 ≤ 57))) else (some false)
set_option maxHeartbeats 8000000 in
set_option maxRecDepth 100000 in
theorem cZ_.calls (a0 : Int) (r : Bool) (w : World) (h : cZ_.f a0 = some r) :
  Calls Try.prog 107 #[.int .u8 a0] w fun e w' => e = .returned (.bool r) ∧ aq_ w w' := by
 have H : (if a0 ≥ 48 then (some (decide (a0 ≤ 57))) else (some false)) = some r := h
 clear h
 by_cases c2 : a0 ≥ 48
 rotate_left
 ·rw [if_neg c2] at H
  have c2b0 : decide (48 ≤ a0) = false := decide_eq_false c2
  clear c2
  obtain rfl := Option.some.inj H
  go_enter Try.func107, Try.ntmps107
  go_wp2
  go_ret
  exact ⟨by first | rfl | (simp; done) | (simp [*]; done), by repeat (first | exact aq_.refl _ | apply aq_.step)⟩
 rw [if_pos c2] at H
 have c2b0 : decide (48 ≤ a0) = true := decide_eq_true c2
 clear c2
 obtain rfl := Option.some.inj H
 go_enter Try.func107, Try.ntmps107
 go_wp2
 go_ret
 exact ⟨by first | rfl | (simp; done) | (simp [*]; done), by repeat (first | exact aq_.refl _ | apply aq_.step)⟩
mutual
def aM_.j0 : Nat → ByteArray → Bool → Option (Bool)
 | 0, _, _ => none
 | k + 1, x0, x16 => if x16 = true then (some false) else (aM_.l0 k x0 0)
def aM_.l0 : Nat → ByteArray → Int → Option (Bool)
 | 0, _, _ => none
 | k + 1, x0, x3 => if x3 < (x0.size : Int) then (if 0 ≤ x3 then ((cv_.f (bt x0 x3)).bind fun t102 => (if t102 = true then (aM_.l0 k x0 (wrap64 (x3 + 1))) else ((cZ_.f (bt x0 x3)).bind fun t103 => (if t103 = true then (aM_.l0 k x0 (wrap64 (x3 + 1))) else (some false))))) else (none)) else (some true)
end
def aM_.f (k : Nat) (a0 : ByteArray) : Option (Bool) := if a0.toList = ([] : List UInt8) then (aM_.j0 k a0 true) else (if (a0.size : Int) > 10 then (aM_.j0 k a0 true) else (if 0 < (a0.size : Int) then ((cv_.f (bt a0 0)).bind fun t101 => (aM_.j0 k a0 (!t101))) else (none)))
set_option maxHeartbeats 8000000 in
set_option maxRecDepth 100000 in
theorem aM_.calls (k : Nat) (a0 : ByteArray) (r : Bool) (w : World) (h : aM_.f k a0 = some r) :
  Calls Try.prog 90 #[.string a0] w fun e w' => e = .returned (.bool r) ∧ aq_ w w' := by
 have H : (if a0.toList = ([] : List UInt8) then (aM_.j0 k a0 true) else (if (a0.size : Int) > 10 then (aM_.j0 k a0 true) else (if 0 < (a0.size : Int) then ((cv_.f (bt a0 0)).bind fun t101 => (aM_.j0 k a0 (!t101))) else (none)))) = some r := h
 clear h
 have HC2 := Aside0.mk H
 clear H
 go_enter Try.func90, Try.ntmps90
 go_upto_region 1 with (fail)
 go_cut [16] (fun v16 wc => ∃ (kq : Nat) (x16_1 : Bool), v16 = .bool x16_1 ∧ Aside0 (aM_.j0 kq a0 x16_1 = some r) ∧ Aside0 (kq ≤ k) ∧ aq_ w wc)
 case first =>
  have H := HC2.out
  clear HC2
  by_cases c3 : a0.toList = ([] : List UInt8)
  rotate_left
  ·rw [if_neg c3] at H
   have c3b0 : (a0.toList == ([] : List UInt8)) = false := beq_eq_false_iff_ne.mpr c3
   have c3b1 : (a0.toList != ([] : List UInt8)) = true := bne_iff_ne.mpr c3
   (try (have c3b8 := c3b0; simp only [List.beq_nil_eq] at c3b8))
   (first | rw [c3b0] | (simp only [i64_w, i32_w]; rw [c3b0]) | (simp only [c3b1, Bool.not_true, Bool.not_false]) | (simp only [c3b0, Bool.not_true, Bool.not_false]) | rw [c3b8] | (simp only [c3b8, Bool.not_true, Bool.not_false]) | skip)
   by_cases c4 : (a0.size : Int) > 10
   rotate_left
   ·rw [if_neg c4] at H
    have c4b0 : decide (10 < (a0.size : Int)) = false := decide_eq_false c4
    have c4b1 : decide (10 < a0.size) = false := decide_eq_false (by omega)
    clear c4
    by_cases c5 : 0 < (a0.size : Int)
    rotate_left
    ·rw [if_neg c5] at H
     exact absurd H (by simp)
    rw [if_pos c5] at H
    have c5b0 : decide (0 < (a0.size : Int)) = true := decide_eq_true c5
    have c5b1 : decide (0 < a0.size) = true := decide_eq_true (by omega)
    clear c5
    replace H := Option.bind_eq_some_iff.mp H
    obtain ⟨t101, A70, H⟩ := H
    (try dsimp only at H)
    have A7 := Aside0.mk A70
    clear A70
    have H' := Aside0.mk H
    clear H
    have p6 : 0 ≤ (0 : Int) := (by omega)
    have q6 : 0 < a0.size := (by have : (0 : Int) < (a0.size : Int) := of_decide_eq_true (by assumption); omega)
    have hx6 : ∀ h : 0 < a0.size, ((a0[0]'h).toNat : Int) = bt a0 0 := bt_at a0 0
    clear p6
    have qi6 : (0 < (a0.size : Int)) = True := eq_true (of_decide_eq_true (by assumption))
    replace q6 := eq_true q6
    go_wp2_with (first | (go_at_call 106; (with_reducible refine (cv_.calls (bt a0 0) t101 _ A7.out).mono ?_); rintro e w' ⟨rfl, ⟨nd, rfl⟩⟩))
    go_meet
    case rel => exact ⟨_, (!t101), (by first | rfl | (simp; done) | (simp [*]; done)), H', ⟨by first | omega | exact Nat.le_refl _⟩, by repeat (first | exact aq_.refl _ | apply aq_.step)⟩
   rw [if_pos c4] at H
   have c4b0 : decide (10 < (a0.size : Int)) = true := decide_eq_true c4
   have c4b1 : decide (10 < a0.size) = true := decide_eq_true (by omega)
   clear c4
   have H' := Aside0.mk H
   clear H
   go_wp2
   go_meet
   case rel => exact ⟨_, (true), (by first | rfl | (simp; done) | (simp [*]; done)), H', ⟨by first | omega | exact Nat.le_refl _⟩, by repeat (first | exact aq_.refl _ | apply aq_.step)⟩
  rw [if_pos c3] at H
  have c3b0 : (a0.toList == ([] : List UInt8)) = true := beq_iff_eq.mpr c3
  have c3b1 : (a0.toList != ([] : List UInt8)) = false := bne_eq_false_iff_eq.mpr c3
  (try (have c3b8 := c3b0; simp only [List.beq_nil_eq] at c3b8))
  clear c3
  (first | rw [c3b0] | (simp only [i64_w, i32_w]; rw [c3b0]) | (simp only [c3b1, Bool.not_true, Bool.not_false]) | (simp only [c3b0, Bool.not_true, Bool.not_false]) | rw [c3b8] | (simp only [c3b8, Bool.not_true, Bool.not_false]) | skip)
  have H' := Aside0.mk H
  clear H
  go_wp2
  go_meet
  case rel => exact ⟨_, (true), (by first | rfl | (simp; done) | (simp [*]; done)), H', ⟨by first | omega | exact Nat.le_refl _⟩, by repeat (first | exact aq_.refl _ | apply aq_.step)⟩
 case rest =>
  clear HC2
  obtain ⟨kq, x16_1, rfl, HA, HJ1, ⟨mc1, rfl⟩⟩ := hcut
  cases kq with
  | zero => exact absurd HA.out (by simp [aM_.j0])
  | succ kj1 =>
   have H := HA.out
   clear HA
   simp only [aM_.j0] at H
   by_cases c8 : x16_1 = true
   rotate_left
   ·replace c8 := Bool.eq_false_iff.mpr c8
    subst c8
    have H1 : (aM_.l0 kj1 a0 0) = some r := by rw [if_neg (show ¬ (false = true) by decide)] at H; exact H
    clear H
    have H := H1
    clear H1
    have H' := Aside0.mk H
    clear H
    go_wp2
    (try simp only [Act.put, lsa_, ls0_, ls1_])
    go_loopg [3] kj1 (fun kq v3 w' => ∃ (x3_2 : Int), v3 = .int .i64 x3_2 ∧ Aside0 (aM_.l0 kq a0 x3_2 = some r) ∧ Aside0 (kq ≤ kj1) ∧ aq_ w w')
    case atStart => exact ⟨(0), (by first | rfl | (simp; done) | (simp [*]; done)), H', ⟨Nat.le_refl _⟩, by repeat (first | exact aq_.refl _ | apply aq_.step)⟩
    case round =>
     clear H'
     obtain ⟨x3_2, rfl, HA, HK2, ⟨m2, rfl⟩⟩ := hrel
     cases gk with
     | zero => exact absurd HA.out (by simp [aM_.l0])
     | succ k2 =>
      have H := HA.out
      clear HA
      simp only [aM_.l0] at H
      by_cases c9 : x3_2 < (a0.size : Int)
      rotate_left
      ·rw [if_neg c9] at H
       have c9b0 : decide (x3_2 < (a0.size : Int)) = false := decide_eq_false c9
       clear c9
       obtain rfl := Option.some.inj H
       go_wp2
       go_ret
       exact ⟨by first | rfl | (simp; done) | (simp [*]; done), by repeat (first | exact aq_.refl _ | apply aq_.step)⟩
      rw [if_pos c9] at H
      have c9b0 : decide (x3_2 < (a0.size : Int)) = true := decide_eq_true c9
      clear c9
      by_cases c10 : 0 ≤ x3_2
      rotate_left
      ·rw [if_neg c10] at H
       exact absurd H (by simp)
      rw [if_pos c10] at H
      have c10b0 : decide (0 ≤ x3_2) = true := decide_eq_true c10
      clear c10
      replace H := Option.bind_eq_some_iff.mp H
      obtain ⟨t102, A120, H⟩ := H
      (try dsimp only at H)
      have A12 := Aside0.mk A120
      clear A120
      by_cases c13 : t102 = true
      rotate_left
      ·replace c13 := Bool.eq_false_iff.mpr c13
       subst c13
       have H1 : ((cZ_.f (bt a0 x3_2)).bind fun t103 => (if t103 = true then (aM_.l0 k2 a0 (wrap64 (x3_2 + 1))) else (some false))) = some r := by rw [if_neg (show ¬ (false = true) by decide)] at H; exact H
       clear H
       have H := H1
       clear H1
       replace H := Option.bind_eq_some_iff.mp H
       obtain ⟨t103, A150, H⟩ := H
       (try dsimp only at H)
       have A15 := Aside0.mk A150
       clear A150
       have HC16 := Aside0.mk H
       clear H
       have p11 : 0 ≤ (x3_2 : Int) := of_decide_eq_true (by assumption)
       have q11 : x3_2 < (a0.size : Int) := of_decide_eq_true (by assumption)
       have hx11 := bt_at a0 x3_2
       replace p11 := eq_true p11
       replace q11 := eq_true q11
       go_upto_if 34 with (first | ((with_reducible refine ah_ (f := 106) rfl ?_); refine aN_ (some 26) rfl rfl Try.func106 (by kernel_rfl) rfl #[.int .u8 (bt a0 x3_2)] rfl (by first | rfl | (simp only [lma_, lmc_, lmn_]; first | done | rfl)) ?_; (with_reducible refine (cv_.calls (bt a0 x3_2) false _ A12.out).mono ?_); rintro e w' ⟨rfl, ⟨nd, rfl⟩⟩; refine ⟨_, rfl, ?_⟩; skip; have p14 : 0 ≤ (x3_2 : Int) := of_decide_eq_true (by assumption); have q14 : x3_2 < (a0.size : Int) := of_decide_eq_true (by assumption); have hx14 := bt_at a0 x3_2; replace p14 := eq_true p14; replace q14 := eq_true q14) | (go_at_call 107; (with_reducible refine (cZ_.calls (bt a0 x3_2) t103 _ A15.out).mono ?_); rintro e w' ⟨rfl, ⟨nd, rfl⟩⟩; skip))
       (try simp only [Act.put, lsa_, ls0_, ls1_])
       have H := HC16.out
       clear HC16
       by_cases c17 : t103 = true
       rotate_left
       ·replace c17 := Bool.eq_false_iff.mpr c17
        subst c17
        have H1 : (some false) = some r := by rw [if_neg (show ¬ (false = true) by decide)] at H; exact H
        clear H
        have H := H1
        clear H1
        obtain rfl := Option.some.inj H
        go_wp2
        go_ret
        exact ⟨by first | rfl | (simp; done) | (simp [*]; done), by repeat (first | exact aq_.refl _ | apply aq_.step)⟩
       subst c17
       have H1 : (aM_.l0 k2 a0 (wrap64 (x3_2 + 1))) = some r := by rw [if_pos rfl] at H; exact H
       clear H
       have H := H1
       clear H1
       have H' := Aside0.mk H
       clear H
       go_wp2
       go_roundg k2
       case measure => have := HJ1.out; have := HK2.out; omega
       case rel => exact ⟨(wrap64 (x3_2 + 1)), (by first | rfl | (simp; done) | (simp [*]; done)), H', ⟨by have := HJ1.out; have := HK2.out; omega⟩, by repeat (first | exact aq_.refl _ | apply aq_.step)⟩
      subst c13
      have H1 : (aM_.l0 k2 a0 (wrap64 (x3_2 + 1))) = some r := by rw [if_pos rfl] at H; exact H
      clear H
      have H := H1
      clear H1
      have H' := Aside0.mk H
      clear H
      have p11 : 0 ≤ (x3_2 : Int) := of_decide_eq_true (by assumption)
      have q11 : x3_2 < (a0.size : Int) := of_decide_eq_true (by assumption)
      have hx11 := bt_at a0 x3_2
      replace p11 := eq_true p11
      replace q11 := eq_true q11
      go_wp2_with (first | ((with_reducible refine ah_ (f := 106) rfl ?_); refine aN_ (some 26) rfl rfl Try.func106 (by kernel_rfl) rfl #[.int .u8 (bt a0 x3_2)] rfl (by first | rfl | (simp only [lma_, lmc_, lmn_]; first | done | rfl)) ?_; (with_reducible refine (cv_.calls (bt a0 x3_2) true _ A12.out).mono ?_); rintro e w' ⟨rfl, ⟨nd, rfl⟩⟩; refine ⟨_, rfl, ?_⟩))
      go_roundg k2
      case measure => have := HJ1.out; have := HK2.out; omega
      case rel => exact ⟨(wrap64 (x3_2 + 1)), (by first | rfl | (simp; done) | (simp [*]; done)), H', ⟨by have := HJ1.out; have := HK2.out; omega⟩, by repeat (first | exact aq_.refl _ | apply aq_.step)⟩
   subst c8
   have H1 : (some false) = some r := by rw [if_pos rfl] at H; exact H
   clear H
   have H := H1
   clear H1
   obtain rfl := Option.some.inj H
   go_wp2
   go_ret
   exact ⟨by first | rfl | (simp; done) | (simp [*]; done), by repeat (first | exact aq_.refl _ | apply aq_.step)⟩
def bX_.f (a0 : Int) (a1 : Int) (a2 : Int) : Option (Bool) := if a0 ≥ a1 then (some (decide (a0 ≤ a2))) else (some false)
set_option maxHeartbeats 8000000 in
set_option maxRecDepth 100000 in
theorem bX_.calls (a0 : Int) (a1 : Int) (a2 : Int) (r : Bool) (w : World) (h : bX_.f a0 a1 a2 = some r) :
  Calls Try.prog 74 #[.int .i64 a0, .int .i64 a1, .int .i64 a2] w fun e w' => e = .returned (.bool r) ∧ aq_ w w' := by
 have H : (if a0 ≥ a1 then (some (decide (a0 ≤ a2))) else (some false)) = some r := h
 clear h
 by_cases c4 : a0 ≥ a1
 rotate_left
 ·rw [if_neg c4] at H
  have c4b0 : decide (a1 ≤ a0) = false := decide_eq_false c4
  clear c4
  obtain rfl := Option.some.inj H
  go_enter Try.func74, Try.ntmps74
  go_wp2
  go_ret
  exact ⟨by first | rfl | (simp; done) | (simp [*]; done), by repeat (first | exact aq_.refl _ | apply aq_.step)⟩
 rw [if_pos c4] at H
 have c4b0 : decide (a1 ≤ a0) = true := decide_eq_true c4
 clear c4
 obtain rfl := Option.some.inj H
 go_enter Try.func74, Try.ntmps74
 go_wp2
 go_ret
 exact ⟨by first | rfl | (simp; done) | (simp [*]; done), by repeat (first | exact aq_.refl _ | apply aq_.step)⟩
def bY_.l0 : Nat → ByteArray → List ByteArray → Int → Option (Int)
 | 0, _, _, _ => none
 | k + 1, x0, x3, x4 => if x4 < (x3.length : Int) then (if 0 ≤ x4 then (if (rdOf ByteArray.empty x3 x4).toList = x0.toList then (some x4) else (bY_.l0 k x0 x3 (wrap64 (x4 + 1)))) else (none)) else (some (-1))
def bY_.f (k : Nat) (a0 : ByteArray) : Option (Int) := (cf_.f).bind fun t101 => (bY_.l0 k a0 t101 0)
set_option maxHeartbeats 8000000 in
set_option maxRecDepth 100000 in
theorem bY_.calls (k : Nat) (a0 : ByteArray) (r : Int) (w : World) (h : bY_.f k a0 = some r) :
  Calls Try.prog 108 #[.string a0] w fun e w' => e = .returned (.int .i64 r) ∧ Below w.heap.size w w' := by
 have HB := Aside0.mk (Below.refl w.heap.size w)
 have H : ((cf_.f).bind fun t101 => (bY_.l0 k a0 t101 0)) = some r := h
 clear h
 replace H := Option.bind_eq_some_iff.mp H
 obtain ⟨t101, A20, H⟩ := H
 (try dsimp only at H)
 have A2 := Aside0.mk A20
 clear A20
 have H' := Aside0.mk H
 clear H
 go_enter Try.func108, Try.ntmps108
 go_wp2_with (first | ((with_reducible refine ah_ (f := 101) rfl ?_); refine aN_ (some 5) rfl rfl Try.func101 (by kernel_rfl) rfl #[] rfl (by first | rfl | (simp only [lma_, lmc_, lmn_]; first | done | rfl)) ?_; (with_reducible refine (cf_.calls  t101 _ A2.out).mono ?_); rintro e w3 ⟨v102, rfl, ho0, hb⟩; refine ⟨_, rfl, ?_⟩; have HO103 := Aside0.mk (Kd.bt_ ho0 (ae_ (bz HB.out))); replace HB := Aside0.mk (ac_ (bz HB.out) hb); (try clear hb); (try clear ho0)))
 (try simp only [Act.put, lsa_, ls0_, ls1_])
 go_loopg [4] k (fun kq v4 w' => ∃ (x4_1 : Int), v4 = .int .i64 x4_1 ∧ Aside0 (bY_.l0 kq a0 t101 x4_1 = some r) ∧ Aside0 (kq ≤ k) ∧ Aside0 (Kd.R Kd.string 9 w' w.heap.size (fun _ => True) v102 t101) ∧ Aside0 (Below w.heap.size w w'))
 case atStart => exact ⟨(0), (by first | rfl | (simp; done) | (simp [*]; done)), H', ⟨Nat.le_refl _⟩, ⟨rz HO103.out⟩, ⟨bz HB.out⟩⟩
 case round =>
  clear H'
  obtain ⟨x4_1, rfl, HA, HK1, HO_3, HB⟩ := hrel
  cases gk with
  | zero => exact absurd HA.out (by simp [bY_.l0])
  | succ k1 =>
   have H := HA.out
   clear HA
   simp only [bY_.l0] at H
   by_cases c4 : x4_1 < (t101.length : Int)
   rotate_left
   ·rw [if_neg c4] at H
    have c4b0 : decide (x4_1 < (t101.length : Int)) = false := decide_eq_false c4
    clear c4
    obtain rfl := Option.some.inj H
    obtain ⟨Ao9, co9, eo9⟩ := Kd.bn_ HO_3.out
    subst eo9
    go_wp2
    go_ret
    exact ⟨by first | rfl | (simp [*, ao_, an_] <;> rfl), bz HB.out⟩
   rw [if_pos c4] at H
   have c4b0 : decide (x4_1 < (t101.length : Int)) = true := decide_eq_true c4
   clear c4
   by_cases c5 : 0 ≤ x4_1
   rotate_left
   ·rw [if_neg c5] at H
    exact absurd H (by simp)
   rw [if_pos c5] at H
   have c5b0 : decide (0 ≤ x4_1) = true := decide_eq_true c5
   clear c5
   by_cases c6 : (rdOf ByteArray.empty t101 x4_1).toList = a0.toList
   rotate_left
   ·rw [if_neg c6] at H
    have c6b0 : ((rdOf ByteArray.empty t101 x4_1).toList == a0.toList) = false := beq_eq_false_iff_ne.mpr c6
    have c6b1 : ((rdOf ByteArray.empty t101 x4_1).toList != a0.toList) = true := bne_iff_ne.mpr c6
    have H' := Aside0.mk H
    clear H
    obtain ⟨Ao8, co8, eo8⟩ := Kd.bn_ HO_3.out
    subst eo8
    have p104 : 0 ≤ (x4_1 : Int) := of_decide_eq_true (by assumption)
    have q104 : x4_1 < (t101.length : Int) := of_decide_eq_true (by assumption)
    obtain ⟨ad104, e104, hx104_0⟩ := Kd.cz_ (Kd.as_ HO_3.out).2.2 x4_1 p104 q104
    cases e104
    replace p104 := eq_true p104
    replace q104 := eq_true q104
    go_wp2
    go_roundg k1
    case measure => have := HK1.out; omega
    case rel => exact ⟨(wrap64 (x4_1 + 1)), (by first | rfl | (simp; done) | (simp [*]; done)), H', ⟨by have := HK1.out; omega⟩, ⟨rz HO_3.out⟩, ⟨bz HB.out⟩⟩
   rw [if_pos c6] at H
   have c6b0 : ((rdOf ByteArray.empty t101 x4_1).toList == a0.toList) = true := beq_iff_eq.mpr c6
   have c6b1 : ((rdOf ByteArray.empty t101 x4_1).toList != a0.toList) = false := bne_eq_false_iff_eq.mpr c6
   clear c6
   obtain rfl := Option.some.inj H
   obtain ⟨Ao7, co7, eo7⟩ := Kd.bn_ HO_3.out
   subst eo7
   have p104 : 0 ≤ (x4_1 : Int) := of_decide_eq_true (by assumption)
   have q104 : x4_1 < (t101.length : Int) := of_decide_eq_true (by assumption)
   obtain ⟨ad104, e104, hx104_0⟩ := Kd.cz_ (Kd.as_ HO_3.out).2.2 x4_1 p104 q104
   cases e104
   replace p104 := eq_true p104
   replace q104 := eq_true q104
   go_wp2
   go_ret
   exact ⟨by first | rfl | (simp [*, ao_, an_] <;> rfl), bz HB.out⟩
def cQ_.f (a0 : Int) : Option (Bool) := (bX_.f a0 0 179).bind fun t101 => (some t101)
set_option maxHeartbeats 8000000 in
set_option maxRecDepth 100000 in
theorem cQ_.calls (a0 : Int) (r : Bool) (w : World) (h : cQ_.f a0 = some r) :
  Calls Try.prog 109 #[.int .i64 a0] w fun e w' => e = .returned (.bool r) ∧ aq_ w w' := by
 have H : ((bX_.f a0 0 179).bind fun t101 => (some t101)) = some r := h
 clear h
 replace H := Option.bind_eq_some_iff.mp H
 obtain ⟨t101, A20, H⟩ := H
 (try dsimp only at H)
 have A2 := Aside0.mk A20
 clear A20
 obtain rfl := Option.some.inj H
 go_enter Try.func109, Try.ntmps109
 go_wp2_with (first | ((with_reducible refine ah_ (f := 74) rfl ?_); refine aN_ (some 4) rfl rfl Try.func74 (by kernel_rfl) rfl #[.int .i64 a0, .int .i64 0, .int .i64 179] rfl (by first | rfl | (simp only [lma_, lmc_, lmn_]; first | done | rfl)) ?_; (with_reducible refine (bX_.calls a0 0 179 t101 _ A2.out).mono ?_); rintro e w' ⟨rfl, ⟨nd, rfl⟩⟩; refine ⟨_, rfl, ?_⟩))
 go_ret
 exact ⟨by first | rfl | (simp; done) | (simp [*]; done), by repeat (first | exact aq_.refl _ | apply aq_.step)⟩
def bW_.j0 : Nat → List (S61) → Int → Bool → Option (Bool)
 | 0, _, _, _ => none
 | k + 1, x0, x3, x19 => if x19 = true then (some false) else ((cu_.f).bind fun t105 => (if 0 ≤ x3 then (if x3 < (t105.length : Int) then (if 0 < ((rd_L4 t105 x3).length : Int) then (if 0 < (x0.length : Int) then ((bX_.f ((de_ x0 0).f1) (wrap64 ((rd (rd_L4 t105 x3) 0) - 15)) (wrap64 ((rd (rd_L4 t105 x3) 0) + 15))).bind fun t111 => (if t111 = true then ((cQ_.f ((de_ x0 0).f2)).bind fun t113 => (some t113)) else (some false))) else (none)) else (none)) else (none)) else (none)))
def bW_.f (k : Nat) (l0 : List (S61)) : Option (Bool) := if 0 < (l0.length : Int) then ((bY_.f k ((de_ l0 0).f0)).bind fun t102 => (if t102 < 0 then (bW_.j0 k l0 t102 true) else ((bX_.f ((de_ l0 0).f1) 0 100).bind fun t104 => (bW_.j0 k l0 t102 (!t104))))) else (none)
set_option maxHeartbeats 8000000 in
set_option maxRecDepth 100000 in
theorem bW_.calls (k : Nat) (A0 : Option Addr) (l0 : List (S61)) (r : Bool) (w : World) (hr0 : Kd.C k61 w A0 l0.length l0) (h : bW_.f k l0 = some r) :
  Calls Try.prog 91 #[.pointer A0] w fun e w' => e = .returned (.bool r) ∧ Below w.heap.size w w' := by
 have HR0 := Aside0.mk hr0
 clear hr0
 have HB := Aside0.mk (Below.refl w.heap.size w)
 have H : (if 0 < (l0.length : Int) then ((bY_.f k ((de_ l0 0).f0)).bind fun t102 => (if t102 < 0 then (bW_.j0 k l0 t102 true) else ((bX_.f ((de_ l0 0).f1) 0 100).bind fun t104 => (bW_.j0 k l0 t102 (!t104))))) else (none)) = some r := h
 clear h
 by_cases c2 : 0 < (l0.length : Int)
 rotate_left
 ·rw [if_neg c2] at H
  exact absurd H (by simp)
 rw [if_pos c2] at H
 have c2b0 : decide (0 < (l0.length : Int)) = true := decide_eq_true c2
 have c2b1 : decide (0 < l0.length) = true := decide_eq_true (by omega)
 clear c2
 replace H := Option.bind_eq_some_iff.mp H
 obtain ⟨t102, A30, H⟩ := H
 (try dsimp only at H)
 have A3 := Aside0.mk A30
 clear A30
 have HC4 := Aside0.mk H
 clear H
 have p101 : 0 ≤ (0 : Int) := (by omega)
 have q101 : 0 < (l0.length : Int) := of_decide_eq_true (by assumption)
 obtain ⟨ad101, e101, hx101_0, hx101_1, hx101_2⟩ := at_T61 HR0.out 0 p101 q101
 cases e101
 have qi101 : (0 < l0.length) = True := eq_true (by omega)
 (try simp only [Int.toNat_zero, Nat.zero_mul, Addr.add_zero'] at hx101_0 hx101_1 hx101_2)
 replace p101 := eq_true p101
 replace q101 := eq_true q101
 go_enter Try.func91, Try.ntmps91
 go_upto_region 2 with (first | ((with_reducible refine ah_ (f := 108) rfl ?_); refine aN_ (some 9) rfl rfl Try.func108 (by kernel_rfl) rfl #[.string ((de_ l0 0).f0)] rfl (by first | rfl | (simp only [lma_, lmc_, lmn_]; first | done | rfl)) ?_; (with_reducible refine (bY_.calls k ((de_ l0 0).f0) t102 _ A3.out).mono ?_); rintro e w5 ⟨rfl, hb⟩; refine ⟨_, rfl, ?_⟩; replace HB := Aside0.mk (ac_ (bz HB.out) hb); (try clear hb)))
 (try simp only [Act.put, lsa_, ls0_, ls1_])
 go_cut [19] (fun v19 wc => ∃ (kq : Nat) (x19_3 : Bool), v19 = .bool x19_3 ∧ Aside0 (bW_.j0 kq l0 t102 x19_3 = some r) ∧ Aside0 (kq ≤ k) ∧ Aside0 (Below w.heap.size w wc))
 case first =>
  have H := HC4.out
  clear HC4
  by_cases c6 : t102 < 0
  rotate_left
  ·rw [if_neg c6] at H
   have c6b0 : decide (t102 < 0) = false := decide_eq_false c6
   clear c6
   (first | rw [c6b0] | (simp only [i64_w, i32_w]; rw [c6b0]) | (simp only [c6b1, Bool.not_true, Bool.not_false]) | (simp only [c6b0, Bool.not_true, Bool.not_false]) | skip)
   replace H := Option.bind_eq_some_iff.mp H
   obtain ⟨t104, A70, H⟩ := H
   (try dsimp only at H)
   have A7 := Aside0.mk A70
   clear A70
   have H' := Aside0.mk H
   clear H
   have p103 : 0 ≤ (0 : Int) := (by omega)
   have q103 : 0 < (l0.length : Int) := of_decide_eq_true (by assumption)
   obtain ⟨ad103, e103, hx103_0, hx103_1, hx103_2⟩ := at_T61 HR0.out 0 p103 q103
   obtain rfl : ad101 = ad103 := (by injection e103)
   have qi103 : (0 < l0.length) = True := eq_true (by omega)
   (try simp only [Int.toNat_zero, Nat.zero_mul, Addr.add_zero'] at hx103_0 hx103_1 hx103_2)
   replace hx103_0 := bu_ HB.out hx103_0
   replace hx103_1 := bu_ HB.out hx103_1
   replace hx103_2 := bu_ HB.out hx103_2
   replace p103 := eq_true p103
   replace q103 := eq_true q103
   go_wp2_with (first | (go_at_call 74; (with_reducible refine (bX_.calls ((de_ l0 0).f1) 0 100 t104 _ A7.out).mono ?_); rintro e w' ⟨rfl, ⟨nd, rfl⟩⟩))
   go_meet
   case rel => exact ⟨_, (!t104), (by first | rfl | (simp; done) | (simp [*]; done)), H', ⟨by first | omega | exact Nat.le_refl _⟩, ⟨bz HB.out⟩⟩
  rw [if_pos c6] at H
  have c6b0 : decide (t102 < 0) = true := decide_eq_true c6
  clear c6
  (first | rw [c6b0] | (simp only [i64_w, i32_w]; rw [c6b0]) | (simp only [c6b1, Bool.not_true, Bool.not_false]) | (simp only [c6b0, Bool.not_true, Bool.not_false]) | skip)
  have H' := Aside0.mk H
  clear H
  go_wp2
  go_meet
  case rel => exact ⟨_, (true), (by first | rfl | (simp; done) | (simp [*]; done)), H', ⟨by first | omega | exact Nat.le_refl _⟩, ⟨bz HB.out⟩⟩
 case rest =>
  clear HC4
  obtain ⟨kq, x19_3, rfl, HA, HJ3, HB⟩ := hcut
  cases kq with
  | zero => exact absurd HA.out (by simp [bW_.j0])
  | succ kj3 =>
   have H := HA.out
   clear HA
   simp only [bW_.j0] at H
   by_cases c8 : x19_3 = true
   rotate_left
   ·replace c8 := Bool.eq_false_iff.mpr c8
    subst c8
    have H1 : ((cu_.f).bind fun t105 => (if 0 ≤ t102 then (if t102 < (t105.length : Int) then (if 0 < ((rd_L4 t105 t102).length : Int) then (if 0 < (l0.length : Int) then ((bX_.f ((de_ l0 0).f1) (wrap64 ((rd (rd_L4 t105 t102) 0) - 15)) (wrap64 ((rd (rd_L4 t105 t102) 0) + 15))).bind fun t111 => (if t111 = true then ((cQ_.f ((de_ l0 0).f2)).bind fun t113 => (some t113)) else (some false))) else (none)) else (none)) else (none)) else (none))) = some r := by rw [if_neg (show ¬ (false = true) by decide)] at H; exact H
    clear H
    have H := H1
    clear H1
    replace H := Option.bind_eq_some_iff.mp H
    obtain ⟨t105, A90, H⟩ := H
    (try dsimp only at H)
    have A9 := Aside0.mk A90
    clear A90
    by_cases c10 : 0 ≤ t102
    rotate_left
    ·rw [if_neg c10] at H
     exact absurd H (by simp)
    rw [if_pos c10] at H
    have c10b0 : decide (0 ≤ t102) = true := decide_eq_true c10
    clear c10
    by_cases c11 : t102 < (t105.length : Int)
    rotate_left
    ·rw [if_neg c11] at H
     exact absurd H (by simp)
    rw [if_pos c11] at H
    have c11b0 : decide (t102 < (t105.length : Int)) = true := decide_eq_true c11
    clear c11
    by_cases c12 : 0 < ((rd_L4 t105 t102).length : Int)
    rotate_left
    ·rw [if_neg c12] at H
     exact absurd H (by simp)
    rw [if_pos c12] at H
    have c12b0 : decide (0 < ((rd_L4 t105 t102).length : Int)) = true := decide_eq_true c12
    have c12b1 : decide (0 < (rd_L4 t105 t102).length) = true := decide_eq_true (by omega)
    clear c12
    by_cases c13 : 0 < (l0.length : Int)
    rotate_left
    ·rw [if_neg c13] at H
     exact absurd H (by simp)
    rw [if_pos c13] at H
    have c13b0 : decide (0 < (l0.length : Int)) = true := decide_eq_true c13
    have c13b1 : decide (0 < l0.length) = true := decide_eq_true (by omega)
    clear c13
    replace H := Option.bind_eq_some_iff.mp H
    obtain ⟨t111, A140, H⟩ := H
    (try dsimp only at H)
    have A14 := Aside0.mk A140
    clear A140
    by_cases c15 : t111 = true
    rotate_left
    ·replace c15 := Bool.eq_false_iff.mpr c15
     subst c15
     have H1 : (some false) = some r := by rw [if_neg (show ¬ (false = true) by decide)] at H; exact H
     clear H
     have H := H1
     clear H1
     obtain rfl := Option.some.inj H
     go_wp2_with (first | ((with_reducible refine ah_ (f := 100) rfl ?_); refine aN_ (some 20) rfl rfl Try.func100 (by kernel_rfl) rfl #[] rfl (by first | rfl | (simp only [lma_, lmc_, lmn_]; first | done | rfl)) ?_; (with_reducible refine (cu_.calls  t105 _ A9.out).mono ?_); rintro e w19 ⟨v106, rfl, ho0, hb⟩; refine ⟨_, rfl, ?_⟩; have HO107 := Aside0.mk (Kd.ds_ (Kd.co_ (ok' := fun k_ => True) ho0 (fun k_ hk_ => trivial)) (ae_ (bz HB.out))); replace HB := Aside0.mk (ac_ (bz HB.out) hb); (try clear hb); (try clear ho0); obtain ⟨Ao20, co20, eo20⟩ := Kd.N_slice HO107.out; subst eo20; have p108 : 0 ≤ (t102 : Int) := of_decide_eq_true (by assumption); have q108 : t102 < (t105.length : Int) := of_decide_eq_true (by assumption); obtain ⟨ad108, A108_0, c108_0, e108, hx108_0, hl108_0, hi108_0⟩ := at_L4 (Kd.da_ HO107.out).2.2 t102 p108 q108; cases e108; obtain ⟨ce108, hce108, hMe108, hcc108⟩ := Kd.N_get HO107.out [] t102 p108 (by first | exact q108 | exact of_decide_eq_true (by assumption) | (have e_ := (Kd.da_ HO107.out).1; omega)); obtain ⟨ua108_0, uc108_0, rfl, ul108_0, ge108_0⟩ := Kd.FK_slice_open hMe108; have hv108_0 := hcc108 0 _ rfl; rw [Nat.add_zero, show ((Kd.slice 2 (Kd.int .i64))).sz = 1 from rfl, Nat.mul_one] at hv108_0; replace hv108_0 := Option.some.inj (hv108_0.symm.trans hx108_0); injection hv108_0 with hva_ hvn_ hvc_; rw [hva_] at ge108_0; rw [hvc_] at ul108_0; have HL108_0 := Aside0.mk (show Kd.V (Kd.int .i64) 2 _ w.heap.size _ _ (rd_L4 t105 t102) from Kd.V_mk ul108_0 ge108_0); clear hva_ hvn_ hvc_ ge108_0 ul108_0; clear hcc108 hce108; have HR108_0 := Aside0.mk hi108_0; have HC108_0 := Aside0.mk hl108_0; clear hi108_0 hl108_0; replace p108 := eq_true p108; replace q108 := eq_true q108; have p109 : 0 ≤ (0 : Int) := (by omega); have q109 : 0 < ((rd_L4 t105 t102).length : Int) := of_decide_eq_true (by assumption); obtain ⟨ad109, e109, hx109_0⟩ := Kd.at_int (by repeat (first | (with_reducible exact HR108_0.out) | (with_reducible first | refine Kd.C_alloc ?_ _ | refine Kd.C_drewN ?_ _ | refine Kd.C_drew ?_) | exact HR108_0.out)) 0 p109 q109; cases e109; have qi109 : (0 < (rd_L4 t105 t102).length) = True := eq_true (by omega); (try rw [show ((0 : Int)).toNat = 0 from rfl] at hx109_0); (try rw [Addr.add_zero'] at hx109_0); replace p109 := eq_true p109; replace q109 := eq_true q109; have p110 : 0 ≤ (0 : Int) := (by omega); have q110 : 0 < (l0.length : Int) := of_decide_eq_true (by assumption); obtain ⟨ad110, e110, hx110_0, hx110_1, hx110_2⟩ := at_T61 HR0.out 0 p110 q110; obtain rfl : ad101 = ad110 := (by injection e110); have qi110 : (0 < l0.length) = True := eq_true (by omega); (try simp only [Int.toNat_zero, Nat.zero_mul, Addr.add_zero'] at hx110_0 hx110_1 hx110_2); replace hx110_0 := bu_ HB.out hx110_0; replace hx110_1 := bu_ HB.out hx110_1; replace hx110_2 := bu_ HB.out hx110_2; replace p110 := eq_true p110; replace q110 := eq_true q110) | ((with_reducible refine ah_ (f := 74) rfl ?_); refine aN_ (some 34) rfl rfl Try.func74 (by kernel_rfl) rfl #[.int .i64 ((de_ l0 0).f1), .int .i64 (wrap64 ((rd (rd_L4 t105 t102) 0) - 15)), .int .i64 (wrap64 ((rd (rd_L4 t105 t102) 0) + 15))] rfl (by first | rfl | (simp only [lma_, lmc_, lmn_]; first | done | rfl)) ?_; (with_reducible refine (bX_.calls ((de_ l0 0).f1) (wrap64 ((rd (rd_L4 t105 t102) 0) - 15)) (wrap64 ((rd (rd_L4 t105 t102) 0) + 15)) false _ A14.out).mono ?_); rintro e w' ⟨rfl, ⟨nd, rfl⟩⟩; refine ⟨_, rfl, ?_⟩))
     go_ret
     exact ⟨by first | rfl | (simp [*, ao_, an_] <;> rfl), bz HB.out⟩
    subst c15
    have H1 : ((cQ_.f ((de_ l0 0).f2)).bind fun t113 => (some t113)) = some r := by rw [if_pos rfl] at H; exact H
    clear H
    have H := H1
    clear H1
    replace H := Option.bind_eq_some_iff.mp H
    obtain ⟨t113, A160, H⟩ := H
    (try dsimp only at H)
    have A16 := Aside0.mk A160
    clear A160
    obtain rfl := Option.some.inj H
    go_wp2_with (first | ((with_reducible refine ah_ (f := 100) rfl ?_); refine aN_ (some 20) rfl rfl Try.func100 (by kernel_rfl) rfl #[] rfl (by first | rfl | (simp only [lma_, lmc_, lmn_]; first | done | rfl)) ?_; (with_reducible refine (cu_.calls  t105 _ A9.out).mono ?_); rintro e w17 ⟨v106, rfl, ho0, hb⟩; refine ⟨_, rfl, ?_⟩; have HO107 := Aside0.mk (Kd.ds_ (Kd.co_ (ok' := fun k_ => True) ho0 (fun k_ hk_ => trivial)) (ae_ (bz HB.out))); replace HB := Aside0.mk (ac_ (bz HB.out) hb); (try clear hb); (try clear ho0); obtain ⟨Ao18, co18, eo18⟩ := Kd.N_slice HO107.out; subst eo18; have p108 : 0 ≤ (t102 : Int) := of_decide_eq_true (by assumption); have q108 : t102 < (t105.length : Int) := of_decide_eq_true (by assumption); obtain ⟨ad108, A108_0, c108_0, e108, hx108_0, hl108_0, hi108_0⟩ := at_L4 (Kd.da_ HO107.out).2.2 t102 p108 q108; cases e108; obtain ⟨ce108, hce108, hMe108, hcc108⟩ := Kd.N_get HO107.out [] t102 p108 (by first | exact q108 | exact of_decide_eq_true (by assumption) | (have e_ := (Kd.da_ HO107.out).1; omega)); obtain ⟨ua108_0, uc108_0, rfl, ul108_0, ge108_0⟩ := Kd.FK_slice_open hMe108; have hv108_0 := hcc108 0 _ rfl; rw [Nat.add_zero, show ((Kd.slice 2 (Kd.int .i64))).sz = 1 from rfl, Nat.mul_one] at hv108_0; replace hv108_0 := Option.some.inj (hv108_0.symm.trans hx108_0); injection hv108_0 with hva_ hvn_ hvc_; rw [hva_] at ge108_0; rw [hvc_] at ul108_0; have HL108_0 := Aside0.mk (show Kd.V (Kd.int .i64) 2 _ w.heap.size _ _ (rd_L4 t105 t102) from Kd.V_mk ul108_0 ge108_0); clear hva_ hvn_ hvc_ ge108_0 ul108_0; clear hcc108 hce108; have HR108_0 := Aside0.mk hi108_0; have HC108_0 := Aside0.mk hl108_0; clear hi108_0 hl108_0; replace p108 := eq_true p108; replace q108 := eq_true q108; have p109 : 0 ≤ (0 : Int) := (by omega); have q109 : 0 < ((rd_L4 t105 t102).length : Int) := of_decide_eq_true (by assumption); obtain ⟨ad109, e109, hx109_0⟩ := Kd.at_int (by repeat (first | (with_reducible exact HR108_0.out) | (with_reducible first | refine Kd.C_alloc ?_ _ | refine Kd.C_drewN ?_ _ | refine Kd.C_drew ?_) | exact HR108_0.out)) 0 p109 q109; cases e109; have qi109 : (0 < (rd_L4 t105 t102).length) = True := eq_true (by omega); (try rw [show ((0 : Int)).toNat = 0 from rfl] at hx109_0); (try rw [Addr.add_zero'] at hx109_0); replace p109 := eq_true p109; replace q109 := eq_true q109; have p110 : 0 ≤ (0 : Int) := (by omega); have q110 : 0 < (l0.length : Int) := of_decide_eq_true (by assumption); obtain ⟨ad110, e110, hx110_0, hx110_1, hx110_2⟩ := at_T61 HR0.out 0 p110 q110; obtain rfl : ad101 = ad110 := (by injection e110); have qi110 : (0 < l0.length) = True := eq_true (by omega); (try simp only [Int.toNat_zero, Nat.zero_mul, Addr.add_zero'] at hx110_0 hx110_1 hx110_2); replace hx110_0 := bu_ HB.out hx110_0; replace hx110_1 := bu_ HB.out hx110_1; replace hx110_2 := bu_ HB.out hx110_2; replace p110 := eq_true p110; replace q110 := eq_true q110) | ((with_reducible refine ah_ (f := 74) rfl ?_); refine aN_ (some 34) rfl rfl Try.func74 (by kernel_rfl) rfl #[.int .i64 ((de_ l0 0).f1), .int .i64 (wrap64 ((rd (rd_L4 t105 t102) 0) - 15)), .int .i64 (wrap64 ((rd (rd_L4 t105 t102) 0) + 15))] rfl (by first | rfl | (simp only [lma_, lmc_, lmn_]; first | done | rfl)) ?_; (with_reducible refine (bX_.calls ((de_ l0 0).f1) (wrap64 ((rd (rd_L4 t105 t102) 0) - 15)) (wrap64 ((rd (rd_L4 t105 t102) 0) + 15)) true _ A14.out).mono ?_); rintro e w' ⟨rfl, ⟨nd, rfl⟩⟩; refine ⟨_, rfl, ?_⟩; have p112 : 0 ≤ (0 : Int) := (by omega); have q112 : 0 < (l0.length : Int) := of_decide_eq_true (by assumption); obtain ⟨ad112, e112, hx112_0, hx112_1, hx112_2⟩ := at_T61 HR0.out 0 p112 q112; obtain rfl : ad101 = ad112 := (by injection e112); have qi112 : (0 < l0.length) = True := eq_true (by omega); (try simp only [Int.toNat_zero, Nat.zero_mul, Addr.add_zero'] at hx112_0 hx112_1 hx112_2); replace hx112_0 := bu_ HB.out hx112_0; replace hx112_1 := bu_ HB.out hx112_1; replace hx112_2 := bu_ HB.out hx112_2; replace p112 := eq_true p112; replace q112 := eq_true q112) | (go_at_call 109; (with_reducible refine (cQ_.calls ((de_ l0 0).f2) t113 _ A16.out).mono ?_); rintro e w' ⟨rfl, ⟨nd, rfl⟩⟩))
    go_ret
    exact ⟨by first | rfl | (simp [*, ao_, an_] <;> rfl), bz HB.out⟩
   subst c8
   have H1 : (some false) = some r := by rw [if_pos rfl] at H; exact H
   clear H
   have H := H1
   clear H1
   obtain rfl := Option.some.inj H
   go_wp2
   go_ret
   exact ⟨by first | rfl | (simp [*, ao_, an_] <;> rfl), bz HB.out⟩
def ce_.f (k : Nat) (l0 : List (S63)) : Option (Bool) := if 0 < (l0.length : Int) then ((aM_.f k ((af_ l0 0).f0)).bind fun t102 => (if t102 = true then ((bW_.f k [(af_ l0 0).f1]).bind fun t104 => (some t104)) else (some false))) else (none)
set_option maxHeartbeats 8000000 in
set_option maxRecDepth 100000 in
theorem ce_.calls (k : Nat) (A0 : Option Addr) (l0 : List (S63)) (r : Bool) (w : World) (hr0 : Kd.C k63 w A0 l0.length l0) (h : ce_.f k l0 = some r) :
  Calls Try.prog 65 #[.pointer A0] w fun e w' => e = .returned (.bool r) ∧ Below w.heap.size w w' := by
 have HR0 := Aside0.mk hr0
 clear hr0
 have HB := Aside0.mk (Below.refl w.heap.size w)
 have H : (if 0 < (l0.length : Int) then ((aM_.f k ((af_ l0 0).f0)).bind fun t102 => (if t102 = true then ((bW_.f k [(af_ l0 0).f1]).bind fun t104 => (some t104)) else (some false))) else (none)) = some r := h
 clear h
 by_cases c2 : 0 < (l0.length : Int)
 rotate_left
 ·rw [if_neg c2] at H
  exact absurd H (by simp)
 rw [if_pos c2] at H
 have c2b0 : decide (0 < (l0.length : Int)) = true := decide_eq_true c2
 have c2b1 : decide (0 < l0.length) = true := decide_eq_true (by omega)
 clear c2
 replace H := Option.bind_eq_some_iff.mp H
 obtain ⟨t102, A30, H⟩ := H
 (try dsimp only at H)
 have A3 := Aside0.mk A30
 clear A30
 by_cases c4 : t102 = true
 rotate_left
 ·replace c4 := Bool.eq_false_iff.mpr c4
  subst c4
  have H1 : (some false) = some r := by rw [if_neg (show ¬ (false = true) by decide)] at H; exact H
  clear H
  have H := H1
  clear H1
  obtain rfl := Option.some.inj H
  have p101 : 0 ≤ (0 : Int) := (by omega)
  have q101 : 0 < (l0.length : Int) := of_decide_eq_true (by assumption)
  obtain ⟨ad101, e101, hx101_0, hx101_1, hx101_2, hx101_3⟩ := cH_ HR0.out 0 p101 q101
  cases e101
  have qi101 : (0 < l0.length) = True := eq_true (by omega)
  (try simp only [Int.toNat_zero, Nat.zero_mul, Addr.add_zero'] at hx101_0 hx101_1)
  (try simp only [Int.toNat_zero, Nat.zero_mul, Addr.add_zero'] at hx101_2 hx101_3)
  replace p101 := eq_true p101
  replace q101 := eq_true q101
  go_enter Try.func65, Try.ntmps65
  go_wp2_with (first | ((with_reducible refine ah_ (f := 90) rfl ?_); refine aN_ (some 7) rfl rfl Try.func90 (by kernel_rfl) rfl #[.string ((af_ l0 0).f0)] rfl (by first | rfl | (simp only [lma_, lmc_, lmn_]; first | done | rfl)) ?_; (with_reducible refine (aM_.calls k ((af_ l0 0).f0) false _ A3.out).mono ?_); rintro e w' ⟨rfl, ⟨nd, rfl⟩⟩; refine ⟨_, rfl, ?_⟩))
  go_ret
  exact ⟨by first | rfl | (simp [*, ao_, an_] <;> rfl), bz HB.out⟩
 subst c4
 have H1 : ((bW_.f k [(af_ l0 0).f1]).bind fun t104 => (some t104)) = some r := by rw [if_pos rfl] at H; exact H
 clear H
 have H := H1
 clear H1
 replace H := Option.bind_eq_some_iff.mp H
 obtain ⟨t104, A50, H⟩ := H
 (try dsimp only at H)
 have A5 := Aside0.mk A50
 clear A50
 obtain rfl := Option.some.inj H
 have p101 : 0 ≤ (0 : Int) := (by omega)
 have q101 : 0 < (l0.length : Int) := of_decide_eq_true (by assumption)
 obtain ⟨ad101, e101, hx101_0, hx101_1, hx101_2, hx101_3⟩ := cH_ HR0.out 0 p101 q101
 cases e101
 have qi101 : (0 < l0.length) = True := eq_true (by omega)
 (try simp only [Int.toNat_zero, Nat.zero_mul, Addr.add_zero'] at hx101_0 hx101_1)
 (try simp only [Int.toNat_zero, Nat.zero_mul, Addr.add_zero'] at hx101_2 hx101_3)
 replace p101 := eq_true p101
 replace q101 := eq_true q101
 go_enter Try.func65, Try.ntmps65
 go_wp2_with (first | ((with_reducible refine ah_ (f := 90) rfl ?_); refine aN_ (some 7) rfl rfl Try.func90 (by kernel_rfl) rfl #[.string ((af_ l0 0).f0)] rfl (by first | rfl | (simp only [lma_, lmc_, lmn_]; first | done | rfl)) ?_; (with_reducible refine (aM_.calls k ((af_ l0 0).f0) true _ A3.out).mono ?_); rintro e w' ⟨rfl, ⟨nd, rfl⟩⟩; refine ⟨_, rfl, ?_⟩; have p103 : 0 ≤ (0 : Int) := (by omega); have q103 : 0 < (l0.length : Int) := of_decide_eq_true (by assumption); obtain ⟨ad103, e103, hx103_0, hx103_1, hx103_2, hx103_3⟩ := cH_ HR0.out 0 p103 q103; obtain rfl : ad101 = ad103 := (by injection e103); have qi103 : (0 < l0.length) = True := eq_true (by omega); (try simp only [Int.toNat_zero, Nat.zero_mul, Addr.add_zero'] at hx103_0 hx103_1); (try simp only [Int.toNat_zero, Nat.zero_mul, Addr.add_zero'] at hx103_2 hx103_3); replace p103 := eq_true p103; replace q103 := eq_true q103) | (go_at_call 91; (with_reducible refine (bW_.calls k _ [(af_ l0 0).f1] t104 _ ?side1 A5.out).mono ?_); (case side1 => exact (RPW.C_snd (RPW.C_iso (RPW.C_elem (ad := ad101) (n := l0.length) (xs := l0) z63 (i := 0) (by first | exact of_eq_true p103 | exact p103 | omega) (by first | exact of_eq_true q103 | exact q103 | omega) (by first | exact HR0.out | exact cz HR0.out))))); rintro e w6 ⟨rfl, hb⟩; replace HB := Aside0.mk (ac_ (bz HB.out) hb); (try clear hb)))
 go_ret
 exact ⟨by first | rfl | (simp [*, ao_, an_] <;> rfl), bz HB.out⟩
def au_.l0 : Nat → List (S63) → Int → Option (Bool)
 | 0, _, _ => none
 | k + 1, x0, x3 => if x3 < (x0.length : Int) then (if 0 ≤ x3 then ((ce_.f k [af_ x0 x3]).bind fun t102 => (if t102 = true then (if x3 > 0 then (if 0 ≤ (wrap64 (x3 - 1)) then (if (wrap64 (x3 - 1)) < (x0.length : Int) then (if ((Op.bytesLess (((af_ x0 (wrap64 (x3 - 1))).f0).toList) (((af_ x0 x3).f0).toList)) = true) then (au_.l0 k x0 (wrap64 (x3 + 1))) else (some false)) else (none)) else (none)) else (au_.l0 k x0 (wrap64 (x3 + 1)))) else (some false))) else (none)) else (some (decide ((x0.length : Int) ≤ 24)))
def au_.f (k : Nat) (l0 : List (S63)) : Option (Bool) := au_.l0 k l0 0
def au_.T4 : Bool × List (List Nat × List Nat) := (true, [([], []), ([], []), ([0, 1], [0, 1]), ([2], [2]), ([3], [3]), ([4, 3], [4]), ([5], [5]), ([6, 5], [5, 6]), ([7, 5, 5], [5, 7]), ([8], [8]), ([8], [8]), ([10, 8], [8, 10]), ([9, 11, 8], [8, 9, 11]), ([12, 8], [8, 12]), ([13, 8], [8, 13]), ([8], [8]), ([8], [8]), ([15, 16, 8], [8, 15, 16]), ([17, 8], [8, 17]), ([18, 8], [8, 18]), ([14, 19, 8], [8, 14, 19]), ([8, 20, 5], [5, 8, 20]), ([5, 21], [5, 21])])
def au_.B4 : List Nat := [0, 0, 3, 7, 15, 31, 63, 127, 255, 511, 511, 1535, 4095, 8191, 16383, 511, 511, 98815, 229887, 492031, 1048575, 2097151, 4194303]
theorem au_.tab4 : rtab .any (opsOf Try.f36 4) = au_.T4 := by kernel_rfl
theorem au_.bits4 : waitsOk au_.T4.2 au_.B4 = true := by kernel_rfl
set_option maxHeartbeats 8000000 in
set_option maxRecDepth 100000 in
theorem au_.calls (k : Nat) (A0 : Option Addr) (c0 : Nat) (l0 : List (S63)) (r : Bool) (w : World) (hr0 : Kd.C k63 w A0 l0.length l0) (hc0 : l0.length ≤ c0) (h : au_.f k l0 = some r) :
  Calls Try.prog 36 #[.slice A0 l0.length c0] w fun e w' => e = .returned (.bool r) ∧ Below w.heap.size w w' := by
 have HR0 := Aside0.mk hr0
 have HC0 := Aside0.mk hc0
 clear hr0 hc0
 have HB := Aside0.mk (Below.refl w.heap.size w)
 have H : (au_.l0 k l0 0) = some r := h
 clear h
 have H' := Aside0.mk H
 clear H
 go_enter Try.func36, Try.ntmps36
 go_wp2
 (try simp only [Act.put, lsa_, ls0_, ls1_])
 go_loopg [3] k (fun kq v3 w' => ∃ (x3_1 : Int), v3 = .int .i64 x3_1 ∧ Aside0 (au_.l0 kq l0 x3_1 = some r) ∧ Aside0 (kq ≤ k) ∧ Aside0 (Below w.heap.size w w'))
 case atStart => exact ⟨(0), (by first | rfl | (simp; done) | (simp [*]; done)), H', ⟨Nat.le_refl _⟩, ⟨bz HB.out⟩⟩
 case round =>
  clear H'
  obtain ⟨x3_1, rfl, HA, HK1, HB⟩ := hrel
  cases gk with
  | zero => exact absurd HA.out (by simp [au_.l0])
  | succ k1 =>
   have H := HA.out
   clear HA
   simp only [au_.l0] at H
   by_cases c2 : x3_1 < (l0.length : Int)
   rotate_left
   ·rw [if_neg c2] at H
    have c2b0 : decide (x3_1 < (l0.length : Int)) = false := decide_eq_false c2
    clear c2
    obtain rfl := Option.some.inj H
    go_wp2
    go_ret
    exact ⟨by first | rfl | (simp [*, ao_, an_] <;> rfl), bz HB.out⟩
   rw [if_pos c2] at H
   have c2b0 : decide (x3_1 < (l0.length : Int)) = true := decide_eq_true c2
   clear c2
   by_cases c3 : 0 ≤ x3_1
   rotate_left
   ·rw [if_neg c3] at H
    exact absurd H (by simp)
   rw [if_pos c3] at H
   have c3b0 : decide (0 ≤ x3_1) = true := decide_eq_true c3
   clear c3
   replace H := Option.bind_eq_some_iff.mp H
   obtain ⟨t102, A40, H⟩ := H
   (try dsimp only at H)
   have A4 := Aside0.mk A40
   clear A40
   by_cases c5 : t102 = true
   rotate_left
   ·replace c5 := Bool.eq_false_iff.mpr c5
    subst c5
    have H1 : (some false) = some r := by rw [if_neg (show ¬ (false = true) by decide)] at H; exact H
    clear H
    have H := H1
    clear H1
    obtain rfl := Option.some.inj H
    try go_wp2
    have n0_ := Aside0.mk (bD_ HB.out)
    clear HB
    have HB := n0_
    clear n0_
    have p101 : 0 ≤ (x3_1 : Int) := of_decide_eq_true (by assumption)
    have q101 : x3_1 < (l0.length : Int) := of_decide_eq_true (by assumption)
    obtain ⟨ad101, e101, hx101_0, hx101_1, hx101_2, hx101_3⟩ := cH_ HR0.out x3_1 p101 q101
    have hw101_3 := hx101_3
    have hw101_2 := hx101_2
    have hw101_1 := hx101_1
    have hw101_0 := hx101_0
    cases e101
    replace hx101_0 := bu_ HB.out hx101_0
    replace hx101_1 := bu_ HB.out hx101_1
    replace hx101_2 := bu_ HB.out hx101_2
    replace hx101_3 := bu_ HB.out hx101_3
    replace p101 := eq_true p101
    replace q101 := eq_true q101
    refine start_ (n := 23) (S := fun w' => w'.cell? (ad101.add ((x3_1).toNat * 4)) = some (.string ((af_ l0 x3_1).f0)) ∧ w'.cell? ⟨(ad101.add ((x3_1).toNat * 4)).block, (ad101.add ((x3_1).toNat * 4)).off + 1, none⟩ = some (.string ((af_ l0 x3_1).f1.f0)) ∧ w'.cell? ⟨(ad101.add ((x3_1).toNat * 4)).block, (ad101.add ((x3_1).toNat * 4)).off + 2, none⟩ = some (.int .i64 ((af_ l0 x3_1).f1.f1)) ∧ w'.cell? ⟨(ad101.add ((x3_1).toNat * 4)).block, (ad101.add ((x3_1).toNat * 4)).off + 3, none⟩ = some (.int .i64 ((af_ l0 x3_1).f1.f2))) (ds := []) #[f_,f_,f_,f_,f_,f_,f_,f_,f_,f_,f_,f_,f_,f_,f_,f_,f_,f_,f_,f_,f_,f_,f_] (by kernel_rfl) rfl rfl ⟨(bv_ HB.out hw101_0), (bv_ HB.out hw101_1), (bv_ HB.out hw101_2), (bv_ HB.out hw101_3)⟩ (fun hHeld => ?_); refine dj_ au_.tab4 au_.bits4 (fun HT_ HW_ => ?_)
    generalize wr.drew = w16 at HB hx101_0 hx101_1 hx101_2 hx101_3 hHeld ⊢
    refine pu 0 10 #[t_,f_,f_,f_,f_,f_,f_,f_,f_,f_,f_,f_,f_,f_,f_,f_,f_,f_,f_,f_,f_,f_,f_] HT_ ?_
    refine pu 1 11 #[t_,t_,f_,f_,f_,f_,f_,f_,f_,f_,f_,f_,f_,f_,f_,f_,f_,f_,f_,f_,f_,f_,f_] HT_ ?_
    refine pu 2 12 #[t_,t_,t_,f_,f_,f_,f_,f_,f_,f_,f_,f_,f_,f_,f_,f_,f_,f_,f_,f_,f_,f_,f_] HT_ ?_
    refine one_ (i := 3) (N := some 13) #[t_,t_,t_,t_,f_,f_,f_,f_,f_,f_,f_,f_,f_,f_,f_,f_,f_,f_,f_,f_,f_,f_,f_] rfl rfl (dl_ HT_.out (by kernel_rfl)) (by decide) (fun K hK => ?_)
    (first | refine goes_ Try.func65 (by kernel_rfl) rfl #[.pointer (some ((ad101.add ((x3_1 : Int).toNat * 4)).add 0))] (by rfl) rfl rfl (by first | rfl | (simp only [lma_, lmc_, lmn_]; first | done | rfl)) ?_ | refine RPW.dc_ Try.func65 (by kernel_rfl) rfl #[.pointer (some ((ad101.add ((x3_1 : Int).toNat * 4)).add 0))] (by rfl) rfl rfl rfl (by first | rfl | (simp only [lma_, lmc_, lmn_]; first | done | rfl)) ?_ | refine RPW.dd_ Try.func65 (by kernel_rfl) rfl #[.pointer (some ((ad101.add ((x3_1 : Int).toNat * 4)).add 0))] (by rfl) rfl rfl rfl (by first | rfl | (simp only [lma_, lmc_, lmn_]; first | done | rfl)) ?_)
    with_reducible refine (ce_.calls k1 _ [af_ l0 x3_1] false _ ?side1 A4.out).mono ?_
    (case side1 => exact (RPW.C_elem (ad := ad101) (n := l0.length) (xs := l0) z63 (i := x3_1) (by first | exact of_eq_true p101 | exact p101 | omega) (by first | exact of_eq_true q101 | exact q101 | omega) (by first | exact (Kd.bM_ HR0.out HB.out) | exact cz (Kd.bM_ HR0.out HB.out))))
    rintro e w17 ⟨rfl, hb⟩
    refine ⟨_, rfl, ?_⟩
    have n0_ := Aside0.mk (ac_ (bz HB.out) hb)
    clear HB
    have HB := n0_
    clear n0_
    (try clear hb)
    refine hK.out _ _ ⟨(bv_ HB.out hw101_0), (bv_ HB.out hw101_1), (bv_ HB.out hw101_2), (bv_ HB.out hw101_3)⟩ (fun hHeld => ?_)
    clear hK K
    refine norm_ (a' := ?_) ?_ ?_
    rotate_left
    ·show Act.put _ (some 13) _ = _
     simp only [Act.put, lsa_, ls0_, ls1_, i64_w, i32_w]
     rfl
    refine pu 4 14 #[t_,t_,t_,t_,t_,f_,f_,f_,f_,f_,f_,f_,f_,f_,f_,f_,f_,f_,f_,f_,f_,f_,f_] HT_ ?_
    refine pu 5 15 #[t_,t_,t_,t_,t_,t_,f_,f_,f_,f_,f_,f_,f_,f_,f_,f_,f_,f_,f_,f_,f_,f_,f_] HT_ ?_
    refine pn 6 16 #[t_,t_,t_,t_,t_,t_,t_,f_,f_,f_,f_,f_,f_,f_,f_,f_,f_,f_,f_,f_,f_,f_,f_] HT_ ?_
    refine pn 7 17 #[t_,t_,t_,t_,t_,t_,t_,t_,f_,f_,f_,f_,f_,f_,f_,f_,f_,f_,f_,f_,f_,f_,f_] HT_ ?_
    refine pn 8 18 #[t_,t_,t_,t_,t_,t_,t_,t_,t_,f_,f_,f_,f_,f_,f_,f_,f_,f_,f_,f_,f_,f_,f_] HT_ ?_
    refine pn 9 19 #[t_,t_,t_,t_,t_,t_,t_,t_,t_,t_,f_,f_,f_,f_,f_,f_,f_,f_,f_,f_,f_,f_,f_] HT_ ?_
    refine pn 10 20 #[t_,t_,t_,t_,t_,t_,t_,t_,t_,t_,t_,f_,f_,f_,f_,f_,f_,f_,f_,f_,f_,f_,f_] HT_ ?_
    refine pn 11 21 #[t_,t_,t_,t_,t_,t_,t_,t_,t_,t_,t_,t_,f_,f_,f_,f_,f_,f_,f_,f_,f_,f_,f_] HT_ ?_
    refine pn 12 22 #[t_,t_,t_,t_,t_,t_,t_,t_,t_,t_,t_,t_,t_,f_,f_,f_,f_,f_,f_,f_,f_,f_,f_] HT_ ?_
    refine pn 13 23 #[t_,t_,t_,t_,t_,t_,t_,t_,t_,t_,t_,t_,t_,t_,f_,f_,f_,f_,f_,f_,f_,f_,f_] HT_ ?_
    refine pn 14 24 #[t_,t_,t_,t_,t_,t_,t_,t_,t_,t_,t_,t_,t_,t_,t_,f_,f_,f_,f_,f_,f_,f_,f_] HT_ ?_
    refine pn 15 25 #[t_,t_,t_,t_,t_,t_,t_,t_,t_,t_,t_,t_,t_,t_,t_,t_,f_,f_,f_,f_,f_,f_,f_] HT_ ?_
    refine pn 16 26 #[t_,t_,t_,t_,t_,t_,t_,t_,t_,t_,t_,t_,t_,t_,t_,t_,t_,f_,f_,f_,f_,f_,f_] HT_ ?_
    refine pn 17 27 #[t_,t_,t_,t_,t_,t_,t_,t_,t_,t_,t_,t_,t_,t_,t_,t_,t_,t_,f_,f_,f_,f_,f_] HT_ ?_
    refine pn 18 28 #[t_,t_,t_,t_,t_,t_,t_,t_,t_,t_,t_,t_,t_,t_,t_,t_,t_,t_,t_,f_,f_,f_,f_] HT_ ?_
    refine pn 19 29 #[t_,t_,t_,t_,t_,t_,t_,t_,t_,t_,t_,t_,t_,t_,t_,t_,t_,t_,t_,t_,f_,f_,f_] HT_ ?_
    refine pn 20 30 #[t_,t_,t_,t_,t_,t_,t_,t_,t_,t_,t_,t_,t_,t_,t_,t_,t_,t_,t_,t_,t_,f_,f_] HT_ ?_
    refine pn 21 31 #[t_,t_,t_,t_,t_,t_,t_,t_,t_,t_,t_,t_,t_,t_,t_,t_,t_,t_,t_,t_,t_,t_,f_] HT_ ?_
    refine pu 22 32 #[t_,t_,t_,t_,t_,t_,t_,t_,t_,t_,t_,t_,t_,t_,t_,t_,t_,t_,t_,t_,t_,t_,t_] HT_ ?_
    refine done_ (done_of HT_.out (by kernel_rfl)) ?_
    try go_wp2
    go_ret
    exact ⟨by first | rfl | (simp [*, ao_, an_] <;> rfl), bz HB.out⟩
   subst c5
   have H1 : (if x3_1 > 0 then (if 0 ≤ (wrap64 (x3_1 - 1)) then (if (wrap64 (x3_1 - 1)) < (l0.length : Int) then (if ((Op.bytesLess (((af_ l0 (wrap64 (x3_1 - 1))).f0).toList) (((af_ l0 x3_1).f0).toList)) = true) then (au_.l0 k1 l0 (wrap64 (x3_1 + 1))) else (some false)) else (none)) else (none)) else (au_.l0 k1 l0 (wrap64 (x3_1 + 1)))) = some r := by rw [if_pos rfl] at H; exact H
   clear H
   have H := H1
   clear H1
   by_cases c6 : x3_1 > 0
   rotate_left
   ·rw [if_neg c6] at H
    have c6b0 : decide (0 < x3_1) = false := decide_eq_false c6
    clear c6
    have H' := Aside0.mk H
    clear H
    try go_wp2
    have n0_ := Aside0.mk (bD_ HB.out)
    clear HB
    have HB := n0_
    clear n0_
    have p101 : 0 ≤ (x3_1 : Int) := of_decide_eq_true (by assumption)
    have q101 : x3_1 < (l0.length : Int) := of_decide_eq_true (by assumption)
    obtain ⟨ad101, e101, hx101_0, hx101_1, hx101_2, hx101_3⟩ := cH_ HR0.out x3_1 p101 q101
    have hw101_3 := hx101_3
    have hw101_2 := hx101_2
    have hw101_1 := hx101_1
    have hw101_0 := hx101_0
    cases e101
    replace hx101_0 := bu_ HB.out hx101_0
    replace hx101_1 := bu_ HB.out hx101_1
    replace hx101_2 := bu_ HB.out hx101_2
    replace hx101_3 := bu_ HB.out hx101_3
    replace p101 := eq_true p101
    replace q101 := eq_true q101
    refine start_ (n := 23) (S := fun w' => w'.cell? (ad101.add ((x3_1).toNat * 4)) = some (.string ((af_ l0 x3_1).f0)) ∧ w'.cell? ⟨(ad101.add ((x3_1).toNat * 4)).block, (ad101.add ((x3_1).toNat * 4)).off + 1, none⟩ = some (.string ((af_ l0 x3_1).f1.f0)) ∧ w'.cell? ⟨(ad101.add ((x3_1).toNat * 4)).block, (ad101.add ((x3_1).toNat * 4)).off + 2, none⟩ = some (.int .i64 ((af_ l0 x3_1).f1.f1)) ∧ w'.cell? ⟨(ad101.add ((x3_1).toNat * 4)).block, (ad101.add ((x3_1).toNat * 4)).off + 3, none⟩ = some (.int .i64 ((af_ l0 x3_1).f1.f2))) (ds := []) #[f_,f_,f_,f_,f_,f_,f_,f_,f_,f_,f_,f_,f_,f_,f_,f_,f_,f_,f_,f_,f_,f_,f_] (by kernel_rfl) rfl rfl ⟨(bv_ HB.out hw101_0), (bv_ HB.out hw101_1), (bv_ HB.out hw101_2), (bv_ HB.out hw101_3)⟩ (fun hHeld => ?_); refine dj_ au_.tab4 au_.bits4 (fun HT_ HW_ => ?_)
    generalize wr.drew = w14 at HB hx101_0 hx101_1 hx101_2 hx101_3 hHeld ⊢
    refine pu 0 10 #[t_,f_,f_,f_,f_,f_,f_,f_,f_,f_,f_,f_,f_,f_,f_,f_,f_,f_,f_,f_,f_,f_,f_] HT_ ?_
    refine pu 1 11 #[t_,t_,f_,f_,f_,f_,f_,f_,f_,f_,f_,f_,f_,f_,f_,f_,f_,f_,f_,f_,f_,f_,f_] HT_ ?_
    refine pu 2 12 #[t_,t_,t_,f_,f_,f_,f_,f_,f_,f_,f_,f_,f_,f_,f_,f_,f_,f_,f_,f_,f_,f_,f_] HT_ ?_
    refine one_ (i := 3) (N := some 13) #[t_,t_,t_,t_,f_,f_,f_,f_,f_,f_,f_,f_,f_,f_,f_,f_,f_,f_,f_,f_,f_,f_,f_] rfl rfl (dl_ HT_.out (by kernel_rfl)) (by decide) (fun K hK => ?_)
    (first | refine goes_ Try.func65 (by kernel_rfl) rfl #[.pointer (some ((ad101.add ((x3_1 : Int).toNat * 4)).add 0))] (by rfl) rfl rfl (by first | rfl | (simp only [lma_, lmc_, lmn_]; first | done | rfl)) ?_ | refine RPW.dc_ Try.func65 (by kernel_rfl) rfl #[.pointer (some ((ad101.add ((x3_1 : Int).toNat * 4)).add 0))] (by rfl) rfl rfl rfl (by first | rfl | (simp only [lma_, lmc_, lmn_]; first | done | rfl)) ?_ | refine RPW.dd_ Try.func65 (by kernel_rfl) rfl #[.pointer (some ((ad101.add ((x3_1 : Int).toNat * 4)).add 0))] (by rfl) rfl rfl rfl (by first | rfl | (simp only [lma_, lmc_, lmn_]; first | done | rfl)) ?_)
    with_reducible refine (ce_.calls k1 _ [af_ l0 x3_1] true _ ?side1 A4.out).mono ?_
    (case side1 => exact (RPW.C_elem (ad := ad101) (n := l0.length) (xs := l0) z63 (i := x3_1) (by first | exact of_eq_true p101 | exact p101 | omega) (by first | exact of_eq_true q101 | exact q101 | omega) (by first | exact (Kd.bM_ HR0.out HB.out) | exact cz (Kd.bM_ HR0.out HB.out))))
    rintro e w15 ⟨rfl, hb⟩
    refine ⟨_, rfl, ?_⟩
    have n0_ := Aside0.mk (ac_ (bz HB.out) hb)
    clear HB
    have HB := n0_
    clear n0_
    (try clear hb)
    refine hK.out _ _ ⟨(bv_ HB.out hw101_0), (bv_ HB.out hw101_1), (bv_ HB.out hw101_2), (bv_ HB.out hw101_3)⟩ (fun hHeld => ?_)
    clear hK K
    refine norm_ (a' := ?_) ?_ ?_
    rotate_left
    ·show Act.put _ (some 13) _ = _
     simp only [Act.put, lsa_, ls0_, ls1_, i64_w, i32_w]
     rfl
    refine pu 4 14 #[t_,t_,t_,t_,t_,f_,f_,f_,f_,f_,f_,f_,f_,f_,f_,f_,f_,f_,f_,f_,f_,f_,f_] HT_ ?_
    refine pu 5 15 #[t_,t_,t_,t_,t_,t_,f_,f_,f_,f_,f_,f_,f_,f_,f_,f_,f_,f_,f_,f_,f_,f_,f_] HT_ ?_
    refine pu 6 16 #[t_,t_,t_,t_,t_,t_,t_,f_,f_,f_,f_,f_,f_,f_,f_,f_,f_,f_,f_,f_,f_,f_,f_] HT_ ?_
    refine pu 7 17 #[t_,t_,t_,t_,t_,t_,t_,t_,f_,f_,f_,f_,f_,f_,f_,f_,f_,f_,f_,f_,f_,f_,f_] HT_ ?_
    refine pu 8 18 #[t_,t_,t_,t_,t_,t_,t_,t_,t_,f_,f_,f_,f_,f_,f_,f_,f_,f_,f_,f_,f_,f_,f_] HT_ ?_
    refine pn 9 19 #[t_,t_,t_,t_,t_,t_,t_,t_,t_,t_,f_,f_,f_,f_,f_,f_,f_,f_,f_,f_,f_,f_,f_] HT_ ?_
    refine pn 10 20 #[t_,t_,t_,t_,t_,t_,t_,t_,t_,t_,t_,f_,f_,f_,f_,f_,f_,f_,f_,f_,f_,f_,f_] HT_ ?_
    refine pn 11 21 #[t_,t_,t_,t_,t_,t_,t_,t_,t_,t_,t_,t_,f_,f_,f_,f_,f_,f_,f_,f_,f_,f_,f_] HT_ ?_
    refine pn 12 22 #[t_,t_,t_,t_,t_,t_,t_,t_,t_,t_,t_,t_,t_,f_,f_,f_,f_,f_,f_,f_,f_,f_,f_] HT_ ?_
    refine pn 13 23 #[t_,t_,t_,t_,t_,t_,t_,t_,t_,t_,t_,t_,t_,t_,f_,f_,f_,f_,f_,f_,f_,f_,f_] HT_ ?_
    refine pn 14 24 #[t_,t_,t_,t_,t_,t_,t_,t_,t_,t_,t_,t_,t_,t_,t_,f_,f_,f_,f_,f_,f_,f_,f_] HT_ ?_
    refine pn 15 25 #[t_,t_,t_,t_,t_,t_,t_,t_,t_,t_,t_,t_,t_,t_,t_,t_,f_,f_,f_,f_,f_,f_,f_] HT_ ?_
    refine pn 16 26 #[t_,t_,t_,t_,t_,t_,t_,t_,t_,t_,t_,t_,t_,t_,t_,t_,t_,f_,f_,f_,f_,f_,f_] HT_ ?_
    refine pn 17 27 #[t_,t_,t_,t_,t_,t_,t_,t_,t_,t_,t_,t_,t_,t_,t_,t_,t_,t_,f_,f_,f_,f_,f_] HT_ ?_
    refine pn 18 28 #[t_,t_,t_,t_,t_,t_,t_,t_,t_,t_,t_,t_,t_,t_,t_,t_,t_,t_,t_,f_,f_,f_,f_] HT_ ?_
    refine pn 19 29 #[t_,t_,t_,t_,t_,t_,t_,t_,t_,t_,t_,t_,t_,t_,t_,t_,t_,t_,t_,t_,f_,f_,f_] HT_ ?_
    refine pn 20 30 #[t_,t_,t_,t_,t_,t_,t_,t_,t_,t_,t_,t_,t_,t_,t_,t_,t_,t_,t_,t_,t_,f_,f_] HT_ ?_
    refine pu 21 31 #[t_,t_,t_,t_,t_,t_,t_,t_,t_,t_,t_,t_,t_,t_,t_,t_,t_,t_,t_,t_,t_,t_,f_] HT_ ?_
    refine pu 22 32 #[t_,t_,t_,t_,t_,t_,t_,t_,t_,t_,t_,t_,t_,t_,t_,t_,t_,t_,t_,t_,t_,t_,t_] HT_ ?_
    refine done_ (done_of HT_.out (by kernel_rfl)) ?_
    try go_wp2
    go_roundg k1
    case measure => have := HK1.out; omega
    case rel => exact ⟨(wrap64 (x3_1 + 1)), (by first | rfl | (simp; done) | (simp [*]; done)), H', ⟨by have := HK1.out; omega⟩, ⟨bz HB.out⟩⟩
   rw [if_pos c6] at H
   have c6b0 : decide (0 < x3_1) = true := decide_eq_true c6
   clear c6
   obtain ⟨ji7, hji7⟩ : ∃ j_ : Int, (wrap64 (x3_1 - 1)) = j_ := ⟨_, rfl⟩
   replace H : (if 0 ≤ (ji7) then (if (ji7) < (l0.length : Int) then (if ((Op.bytesLess (((af_ l0 (ji7)).f0).toList) (((af_ l0 x3_1).f0).toList)) = true) then (au_.l0 k1 l0 (wrap64 (x3_1 + 1))) else (some false)) else (none)) else (none)) = some r := by first | (rw [hji7] at H; exact H) | (simp only [hji7] at H ⊢; exact H)
   (try rw [hji7] at A4)
   have hji7w : (IntKind.i64.wrap (x3_1 - 1)) = ji7 := (i64_w _).trans hji7
   by_cases c8 : 0 ≤ (ji7)
   rotate_left
   ·rw [if_neg c8] at H
    exact absurd H (by simp)
   rw [if_pos c8] at H
   have c8b0 : decide (0 ≤ (ji7)) = true := decide_eq_true c8
   clear c8
   by_cases c9 : (ji7) < (l0.length : Int)
   rotate_left
   ·rw [if_neg c9] at H
    exact absurd H (by simp)
   rw [if_pos c9] at H
   have c9b0 : decide ((ji7) < (l0.length : Int)) = true := decide_eq_true c9
   clear c9
   have HC10 := Aside0.mk H
   clear H
   try go_wp2
   have n0_ := Aside0.mk (bD_ HB.out)
   clear HB
   have HB := n0_
   clear n0_
   have p101 : 0 ≤ (x3_1 : Int) := of_decide_eq_true (by assumption)
   have q101 : x3_1 < (l0.length : Int) := of_decide_eq_true (by assumption)
   obtain ⟨ad101, e101, hx101_0, hx101_1, hx101_2, hx101_3⟩ := cH_ HR0.out x3_1 p101 q101
   have hw101_3 := hx101_3
   have hw101_2 := hx101_2
   have hw101_1 := hx101_1
   have hw101_0 := hx101_0
   cases e101
   replace hx101_0 := bu_ HB.out hx101_0
   replace hx101_1 := bu_ HB.out hx101_1
   replace hx101_2 := bu_ HB.out hx101_2
   replace hx101_3 := bu_ HB.out hx101_3
   replace p101 := eq_true p101
   replace q101 := eq_true q101
   have p103 : 0 ≤ ((ji7) : Int) := of_decide_eq_true (by assumption)
   have q103 : (ji7) < (l0.length : Int) := of_decide_eq_true (by assumption)
   obtain ⟨ad103, e103, hx103_0, hx103_1, hx103_2, hx103_3⟩ := cH_ HR0.out (ji7) p103 q103
   have hw103_3 := hx103_3
   have hw103_2 := hx103_2
   have hw103_1 := hx103_1
   have hw103_0 := hx103_0
   obtain rfl : ad101 = ad103 := (by injection e103)
   replace hx103_0 := bu_ HB.out hx103_0
   replace hx103_1 := bu_ HB.out hx103_1
   replace hx103_2 := bu_ HB.out hx103_2
   replace hx103_3 := bu_ HB.out hx103_3
   replace p103 := eq_true p103
   replace q103 := eq_true q103
   have p104 : 0 ≤ (x3_1 : Int) := of_decide_eq_true (by assumption)
   have q104 : x3_1 < (l0.length : Int) := of_decide_eq_true (by assumption)
   obtain ⟨ad104, e104, hx104_0, hx104_1, hx104_2, hx104_3⟩ := cH_ HR0.out x3_1 p104 q104
   have hw104_3 := hx104_3
   have hw104_2 := hx104_2
   have hw104_1 := hx104_1
   have hw104_0 := hx104_0
   obtain rfl : ad101 = ad104 := (by injection e104)
   replace hx104_0 := bu_ HB.out hx104_0
   replace hx104_1 := bu_ HB.out hx104_1
   replace hx104_2 := bu_ HB.out hx104_2
   replace hx104_3 := bu_ HB.out hx104_3
   replace p104 := eq_true p104
   replace q104 := eq_true q104
   refine start_ (n := 23) (S := fun w' => w'.cell? (ad101.add ((x3_1).toNat * 4)) = some (.string ((af_ l0 x3_1).f0)) ∧ w'.cell? ⟨(ad101.add ((x3_1).toNat * 4)).block, (ad101.add ((x3_1).toNat * 4)).off + 1, none⟩ = some (.string ((af_ l0 x3_1).f1.f0)) ∧ w'.cell? ⟨(ad101.add ((x3_1).toNat * 4)).block, (ad101.add ((x3_1).toNat * 4)).off + 2, none⟩ = some (.int .i64 ((af_ l0 x3_1).f1.f1)) ∧ w'.cell? ⟨(ad101.add ((x3_1).toNat * 4)).block, (ad101.add ((x3_1).toNat * 4)).off + 3, none⟩ = some (.int .i64 ((af_ l0 x3_1).f1.f2)) ∧ w'.cell? (ad101.add (((ji7)).toNat * 4)) = some (.string ((af_ l0 (ji7)).f0)) ∧ w'.cell? ⟨(ad101.add (((ji7)).toNat * 4)).block, (ad101.add (((ji7)).toNat * 4)).off + 1, none⟩ = some (.string ((af_ l0 (ji7)).f1.f0)) ∧ w'.cell? ⟨(ad101.add (((ji7)).toNat * 4)).block, (ad101.add (((ji7)).toNat * 4)).off + 2, none⟩ = some (.int .i64 ((af_ l0 (ji7)).f1.f1)) ∧ w'.cell? ⟨(ad101.add (((ji7)).toNat * 4)).block, (ad101.add (((ji7)).toNat * 4)).off + 3, none⟩ = some (.int .i64 ((af_ l0 (ji7)).f1.f2)) ∧ w'.cell? (ad101.add ((x3_1).toNat * 4)) = some (.string ((af_ l0 x3_1).f0)) ∧ w'.cell? ⟨(ad101.add ((x3_1).toNat * 4)).block, (ad101.add ((x3_1).toNat * 4)).off + 1, none⟩ = some (.string ((af_ l0 x3_1).f1.f0)) ∧ w'.cell? ⟨(ad101.add ((x3_1).toNat * 4)).block, (ad101.add ((x3_1).toNat * 4)).off + 2, none⟩ = some (.int .i64 ((af_ l0 x3_1).f1.f1)) ∧ w'.cell? ⟨(ad101.add ((x3_1).toNat * 4)).block, (ad101.add ((x3_1).toNat * 4)).off + 3, none⟩ = some (.int .i64 ((af_ l0 x3_1).f1.f2))) (ds := []) #[f_,f_,f_,f_,f_,f_,f_,f_,f_,f_,f_,f_,f_,f_,f_,f_,f_,f_,f_,f_,f_,f_,f_] (by kernel_rfl) rfl rfl ⟨(bv_ HB.out hw101_0), (bv_ HB.out hw101_1), (bv_ HB.out hw101_2), (bv_ HB.out hw101_3), (bv_ HB.out hw103_0), (bv_ HB.out hw103_1), (bv_ HB.out hw103_2), (bv_ HB.out hw103_3), (bv_ HB.out hw104_0), (bv_ HB.out hw104_1), (bv_ HB.out hw104_2), (bv_ HB.out hw104_3)⟩ (fun hHeld => ?_); refine dj_ au_.tab4 au_.bits4 (fun HT_ HW_ => ?_)
   generalize wr.drew = w11 at HB hx101_0 hx101_1 hx101_2 hx101_3 hx103_0 hx103_1 hx103_2 hx103_3 hx104_0 hx104_1 hx104_2 hx104_3 hHeld ⊢
   refine pu 0 10 #[t_,f_,f_,f_,f_,f_,f_,f_,f_,f_,f_,f_,f_,f_,f_,f_,f_,f_,f_,f_,f_,f_,f_] HT_ ?_
   refine pu 1 11 #[t_,t_,f_,f_,f_,f_,f_,f_,f_,f_,f_,f_,f_,f_,f_,f_,f_,f_,f_,f_,f_,f_,f_] HT_ ?_
   refine pu 2 12 #[t_,t_,t_,f_,f_,f_,f_,f_,f_,f_,f_,f_,f_,f_,f_,f_,f_,f_,f_,f_,f_,f_,f_] HT_ ?_
   refine one_ (i := 3) (N := some 13) #[t_,t_,t_,t_,f_,f_,f_,f_,f_,f_,f_,f_,f_,f_,f_,f_,f_,f_,f_,f_,f_,f_,f_] rfl rfl (dl_ HT_.out (by kernel_rfl)) (by decide) (fun K hK => ?_)
   (first | refine goes_ Try.func65 (by kernel_rfl) rfl #[.pointer (some ((ad101.add ((x3_1 : Int).toNat * 4)).add 0))] (by rfl) rfl rfl (by first | rfl | (simp only [lma_, lmc_, lmn_]; first | done | rfl)) ?_ | refine RPW.dc_ Try.func65 (by kernel_rfl) rfl #[.pointer (some ((ad101.add ((x3_1 : Int).toNat * 4)).add 0))] (by rfl) rfl rfl rfl (by first | rfl | (simp only [lma_, lmc_, lmn_]; first | done | rfl)) ?_ | refine RPW.dd_ Try.func65 (by kernel_rfl) rfl #[.pointer (some ((ad101.add ((x3_1 : Int).toNat * 4)).add 0))] (by rfl) rfl rfl rfl (by first | rfl | (simp only [lma_, lmc_, lmn_]; first | done | rfl)) ?_)
   with_reducible refine (ce_.calls k1 _ [af_ l0 x3_1] true _ ?side1 A4.out).mono ?_
   (case side1 => exact (RPW.C_elem (ad := ad101) (n := l0.length) (xs := l0) z63 (i := x3_1) (by first | exact of_eq_true p101 | exact p101 | omega) (by first | exact of_eq_true q101 | exact q101 | omega) (by first | exact (Kd.bM_ HR0.out HB.out) | exact cz (Kd.bM_ HR0.out HB.out))))
   rintro e w12 ⟨rfl, hb⟩
   refine ⟨_, rfl, ?_⟩
   have n0_ := Aside0.mk (ac_ (bz HB.out) hb)
   clear HB
   have HB := n0_
   clear n0_
   (try clear hb)
   refine hK.out _ _ ⟨(bv_ HB.out hw101_0), (bv_ HB.out hw101_1), (bv_ HB.out hw101_2), (bv_ HB.out hw101_3), (bv_ HB.out hw103_0), (bv_ HB.out hw103_1), (bv_ HB.out hw103_2), (bv_ HB.out hw103_3), (bv_ HB.out hw104_0), (bv_ HB.out hw104_1), (bv_ HB.out hw104_2), (bv_ HB.out hw104_3)⟩ (fun hHeld => ?_)
   clear hK K
   refine norm_ (a' := ?_) ?_ ?_
   rotate_left
   ·show Act.put _ (some 13) _ = _
    simp only [Act.put, lsa_, ls0_, ls1_, i64_w, i32_w]
    rfl
   refine pu 4 14 #[t_,t_,t_,t_,t_,f_,f_,f_,f_,f_,f_,f_,f_,f_,f_,f_,f_,f_,f_,f_,f_,f_,f_] HT_ ?_
   refine pu 5 15 #[t_,t_,t_,t_,t_,t_,f_,f_,f_,f_,f_,f_,f_,f_,f_,f_,f_,f_,f_,f_,f_,f_,f_] HT_ ?_
   refine pu 6 16 #[t_,t_,t_,t_,t_,t_,t_,f_,f_,f_,f_,f_,f_,f_,f_,f_,f_,f_,f_,f_,f_,f_,f_] HT_ ?_
   refine pu 7 17 #[t_,t_,t_,t_,t_,t_,t_,t_,f_,f_,f_,f_,f_,f_,f_,f_,f_,f_,f_,f_,f_,f_,f_] HT_ ?_
   refine pu 8 18 #[t_,t_,t_,t_,t_,t_,t_,t_,t_,f_,f_,f_,f_,f_,f_,f_,f_,f_,f_,f_,f_,f_,f_] HT_ ?_
   refine pu 9 19 #[t_,t_,t_,t_,t_,t_,t_,t_,t_,t_,f_,f_,f_,f_,f_,f_,f_,f_,f_,f_,f_,f_,f_] HT_ ?_
   refine pu 10 20 #[t_,t_,t_,t_,t_,t_,t_,t_,t_,t_,t_,f_,f_,f_,f_,f_,f_,f_,f_,f_,f_,f_,f_] HT_ ?_
   refine pu 11 21 #[t_,t_,t_,t_,t_,t_,t_,t_,t_,t_,t_,t_,f_,f_,f_,f_,f_,f_,f_,f_,f_,f_,f_] HT_ ?_
   refine pu 12 22 #[t_,t_,t_,t_,t_,t_,t_,t_,t_,t_,t_,t_,t_,f_,f_,f_,f_,f_,f_,f_,f_,f_,f_] HT_ ?_
   refine pu 13 23 #[t_,t_,t_,t_,t_,t_,t_,t_,t_,t_,t_,t_,t_,t_,f_,f_,f_,f_,f_,f_,f_,f_,f_] HT_ ?_
   refine pu 15 25 #[t_,t_,t_,t_,t_,t_,t_,t_,t_,t_,t_,t_,t_,t_,f_,t_,f_,f_,f_,f_,f_,f_,f_] HT_ ?_
   refine pu 16 26 #[t_,t_,t_,t_,t_,t_,t_,t_,t_,t_,t_,t_,t_,t_,f_,t_,t_,f_,f_,f_,f_,f_,f_] HT_ ?_
   refine pu 17 27 #[t_,t_,t_,t_,t_,t_,t_,t_,t_,t_,t_,t_,t_,t_,f_,t_,t_,t_,f_,f_,f_,f_,f_] HT_ ?_
   refine pu 18 28 #[t_,t_,t_,t_,t_,t_,t_,t_,t_,t_,t_,t_,t_,t_,f_,t_,t_,t_,t_,f_,f_,f_,f_] HT_ ?_
   refine tk 14 24 #[t_,t_,t_,t_,t_,t_,t_,t_,t_,t_,t_,t_,t_,t_,t_,t_,t_,t_,t_,f_,f_,f_,f_] HT_ HW_ hHeld ?_ (hv := by rintro w' ⟨s0, s1, s2, s3, s4, s5, s6, s7, s8, s9, s10, s11⟩; go_simp; with_reducible rfl)
   refine tk 19 29 #[t_,t_,t_,t_,t_,t_,t_,t_,t_,t_,t_,t_,t_,t_,t_,t_,t_,t_,t_,t_,f_,f_,f_] HT_ HW_ hHeld ?_ (hv := by rintro w' ⟨s0, s1, s2, s3, s4, s5, s6, s7, s8, s9, s10, s11⟩; go_simp; with_reducible rfl)
   refine pu 20 30 #[t_,t_,t_,t_,t_,t_,t_,t_,t_,t_,t_,t_,t_,t_,t_,t_,t_,t_,t_,t_,t_,f_,f_] HT_ ?_
   refine pu 21 31 #[t_,t_,t_,t_,t_,t_,t_,t_,t_,t_,t_,t_,t_,t_,t_,t_,t_,t_,t_,t_,t_,t_,f_] HT_ ?_
   refine pu 22 32 #[t_,t_,t_,t_,t_,t_,t_,t_,t_,t_,t_,t_,t_,t_,t_,t_,t_,t_,t_,t_,t_,t_,t_] HT_ ?_
   refine done_ (done_of HT_.out (by kernel_rfl)) ?_
   go_upto_if 32 with (fail)
   have H := HC10.out
   clear HC10
   by_cases c13 : ((Op.bytesLess (((af_ l0 (ji7)).f0).toList) (((af_ l0 x3_1).f0).toList)) = true)
   rotate_left
   ·rw [if_neg c13] at H
    have c13b0 : (Op.bytesLess (((af_ l0 (ji7)).f0).toList) (((af_ l0 x3_1).f0).toList)) = false := by simpa using c13
    clear c13
    (first | rw [c13b0] | (simp only [i64_w, i32_w]; rw [c13b0]) | (simp only [c13b1, Bool.not_true, Bool.not_false]) | (simp only [c13b0, Bool.not_true, Bool.not_false]) | skip)
    obtain rfl := Option.some.inj H
    go_wp2
    go_ret
    exact ⟨by first | rfl | (simp [ao_, an_] <;> rfl) | (simp only [← hji7]; first | rfl | (simp [ao_, an_] <;> rfl)) | (simp [*, ao_, an_] <;> rfl), bz HB.out⟩
   rw [if_pos c13] at H
   have c13b0 : (Op.bytesLess (((af_ l0 (ji7)).f0).toList) (((af_ l0 x3_1).f0).toList)) = true := c13
   clear c13
   (first | rw [c13b0] | (simp only [i64_w, i32_w]; rw [c13b0]) | (simp only [c13b1, Bool.not_true, Bool.not_false]) | (simp only [c13b0, Bool.not_true, Bool.not_false]) | skip)
   have H' := Aside0.mk H
   clear H
   go_wp2
   go_roundg k1
   case measure => have := HK1.out; omega
   case rel => exact ⟨(wrap64 (x3_1 + 1)), (by first | rfl | (simp; done) | (simp [*]; done)), H', ⟨by have := HK1.out; omega⟩, ⟨bz HB.out⟩⟩
def cF_.f (k : Nat) (l0 : List (S63)) : Option (Bool) := (au_.f k l0).bind fun t101 => (some t101)
set_option maxHeartbeats 8000000 in
set_option maxRecDepth 100000 in
theorem cF_.calls (k : Nat) (A0 : Option Addr) (c0 : Nat) (l0 : List (S63)) (r : Bool) (w : World) (hr0 : Kd.C k63 w A0 l0.length l0) (hc0 : l0.length ≤ c0) (h : cF_.f k l0 = some r) :
  Calls Try.prog 30 #[.slice A0 l0.length c0] w fun e w' => e = .returned (.bool r) ∧ Below w.heap.size w w' := by
 have HR0 := Aside0.mk hr0
 have HC0 := Aside0.mk hc0
 clear hr0 hc0
 have HB := Aside0.mk (Below.refl w.heap.size w)
 have H : ((au_.f k l0).bind fun t101 => (some t101)) = some r := h
 clear h
 replace H := Option.bind_eq_some_iff.mp H
 obtain ⟨t101, A20, H⟩ := H
 (try dsimp only at H)
 have A2 := Aside0.mk A20
 clear A20
 obtain rfl := Option.some.inj H
 go_enter Try.func30, Try.ntmps30
 go_wp2_with (first | ((with_reducible refine ah_ (f := 36) rfl ?_); refine aN_ (some 4) rfl rfl Try.func36 (by kernel_rfl) rfl #[.slice A0 l0.length c0] rfl (by first | rfl | (simp only [lma_, lmc_, lmn_]; first | done | rfl)) ?_; (with_reducible refine (au_.calls k _ _ l0 t101 _ ?side1 ?side2 A2.out).mono ?_); (case side1 => exact cz HR0.out); (case side2 => exact HC0.out); rintro e w3 ⟨rfl, hb⟩; refine ⟨_, rfl, ?_⟩; replace HB := Aside0.mk (ac_ (bz HB.out) hb); (try clear hb)))
 go_ret
 exact ⟨by first | rfl | (simp [*, ao_, an_] <;> rfl), bz HB.out⟩
def bO_.f (s0_0 : List Int) (s0_1 : Int) (s0_2 : Int) (l1 : List ByteArray) : Option (ByteArray × Int × Int) := (az_.f s0_0 s0_1 s0_2 (l1.length : Int)).bind fun bt101 => (if 0 ≤ bt101.1 then (if bt101.1 < (l1.length : Int) then (some (rdOf ByteArray.empty l1 bt101.1, bt101.2.1, bt101.2.2)) else (none)) else (none))
set_option maxHeartbeats 8000000 in
set_option maxRecDepth 100000 in
theorem bO_.calls (g : Nat) (s0_0 : List Int) (s0_1 : Int) (s0_2 : Int) (A1 : Option Addr) (c1 : Nat) (l1 : List ByteArray) (r1 : ByteArray) (r2 : Int) (r3 : Int) (w0 w : World) (hI : aa_ w0 w g s0_0 s0_1 s0_2) (hB : Below w0.heap.size w0 w) (hr1 : Kd.C Kd.string w A1 l1.length l1) (hc1 : l1.length ≤ c1) (hf1 : ∀ ad, A1 = some ad → 0 < l1.length → ad.block ≠ g) (h : bO_.f s0_0 s0_1 s0_2 l1 = some (r1, r2, r3)) :
  Calls Try.prog 89 #[.pointer (some ⟨g, 0, none⟩), .slice A1 l1.length c1] w fun e w' => e = .returned (.string r1) ∧ aa_ w0 w' g s0_0 r2 r3 ∧ Below w0.heap.size w0 w' ∧ ab_ w w' g none := by
 have HR1 := Aside0.mk hr1
 have HC1 := Aside0.mk hc1
 clear hr1 hc1
 have HI0 := Aside0.mk hI
 have HK := Aside0.mk (ab_.refl w g none)
 have HL := Aside0.mk hB.size
 clear hI
 have HW0 := Aside0.mk hB.size
 have HB := Aside0.mk hB
 clear hB
 have H : ((az_.f s0_0 s0_1 s0_2 (l1.length : Int)).bind fun bt101 => (if 0 ≤ bt101.1 then (if bt101.1 < (l1.length : Int) then (some (rdOf ByteArray.empty l1 bt101.1, bt101.2.1, bt101.2.2)) else (none)) else (none))) = some (r1, r2, r3) := h
 clear h
 replace H := Option.bind_eq_some_iff.mp H
 obtain ⟨⟨t101, t102, t103⟩, A30, H⟩ := H
 (try dsimp only at H)
 have A3 := Aside0.mk A30
 clear A30
 by_cases c4 : 0 ≤ t101
 rotate_left
 ·rw [if_neg c4] at H
  exact absurd H (by simp)
 rw [if_pos c4] at H
 have c4b0 : decide (0 ≤ t101) = true := decide_eq_true c4
 clear c4
 by_cases c5 : t101 < (l1.length : Int)
 rotate_left
 ·rw [if_neg c5] at H
  exact absurd H (by simp)
 rw [if_pos c5] at H
 have c5b0 : decide (t101 < (l1.length : Int)) = true := decide_eq_true c5
 clear c5
 simp only [Option.some.injEq, Prod.mk.injEq] at H
 obtain ⟨rfl, rfl, rfl⟩ := H
 go_enter Try.func89, Try.ntmps89
 go_wp2_with (first | ((with_reducible refine ah_ (f := 86) rfl ?_); refine aN_ (some 9) rfl rfl Try.func86 (by kernel_rfl) rfl #[.pointer (some ⟨g, 0, none⟩), .int .i64 (l1.length : Int)] rfl (by first | rfl | (simp only [lma_, lmc_, lmn_]; first | done | rfl)) ?_; (with_reducible refine (az_.calls g s0_0 s0_1 s0_2 (l1.length : Int) t101 t102 t103 w0 _ ?side1 ?side2 A3.out).mono ?_); (case side1 => repeat (first | (with_reducible first | exact HI0.out | apply aa_.alloc | apply aa_.drewN | apply aa_.drew | apply aa_.set_1 | apply aa_.set_2) | exact HI0.out)); (case side2 => repeat (first | (with_reducible first | exact HB.out | apply bA_ | apply bN_ | apply bD_ | refine ag_ ?_ (aa_.ge HI0.out)) | exact HB.out)); rintro e w6 ⟨rfl, hi, hb, hk⟩; refine ⟨_, rfl, ?_⟩; replace HK := Aside0.mk (ab_.trans (by repeat (first | (with_reducible first | exact HK.out | apply ab_.set_ | apply aj_ | apply ak_ | apply ai_) | exact HK.out)) hk (.inl rfl)); replace HB := Aside0.mk (hb); replace HI0 := Aside0.mk (hi); (try clear hb); have p104 : 0 ≤ (t101 : Int) := of_decide_eq_true (by assumption); have q104 : t101 < (l1.length : Int) := of_decide_eq_true (by assumption); obtain ⟨ad104, e104, hx104_0⟩ := Kd.cz_ HR1.out t101 p104 q104; cases e104; replace hx104_0 := keep_cell HK.out hx104_0 (by first | (rw [add_block]; exact hf1 _ rfl (by omega)) | exact hf1 _ rfl (by omega) | exact hf1 ad104 rfl (by omega)); replace p104 := eq_true p104; replace q104 := eq_true q104))
 go_ret
 exact ⟨by first | rfl | (simp [*, ao_, an_] <;> rfl), by repeat (first | (with_reducible first | exact HI0.out | apply aa_.alloc | apply aa_.drewN | apply aa_.drew | apply aa_.set_1 | apply aa_.set_2) | exact HI0.out), by repeat (first | (with_reducible first | exact HB.out | apply bA_ | apply bN_ | apply bD_ | refine ag_ ?_ (aa_.ge HI0.out)) | exact HB.out), by repeat (first | (with_reducible first | exact HK.out | apply ab_.set_ | apply aj_ | apply ak_ | apply ai_) | exact HK.out)⟩
def bC_.l0 : Nat → List (S78) → Int → List Int → Int → Int → Option ((List (S78)) × Int × Int)
 | 0, _, _, _, _, _ => none
 | k + 1, x3, x4, x1000, x1001, x1002 => if x4 > 0 then ((az_.f x1000 x1001 x1002 (wrap64 ((x3.length : Int) + 1))).bind fun bt107 => ((ay_.f k x1000 bt107.2.1 bt107.2.2).bind fun bt110 => (if bt107.1 > 0 then (if 0 ≤ (wrap64 (bt107.1 - 1)) then (if (wrap64 (bt107.1 - 1)) < (x3.length : Int) then ((aw_.f k x1000 bt110.2.1 bt110.2.2 ((ar_ x3 (wrap64 (bt107.1 - 1))).f3)).bind fun bt116 => ((bO_.f x1000 bt116.2.1 bt116.2.2 (([(⟨#[]⟩ : ByteArray), (⟨#[110, 101, 119]⟩ : ByteArray), (⟨#[97, 32, 98]⟩ : ByteArray)] : List ByteArray))).bind fun bt125 => (if x3.length < 2513169434916 then (bC_.l0 k (x3 ++ [(⟨wrap64 ((x3.length : Int) + 1), bt107.1, bt125.1, bt116.1⟩ : S78)]) (wrap64 (x4 - 1)) x1000 bt125.2.1 bt125.2.2) else (none)))) else (none)) else (none)) else ((bO_.f x1000 bt110.2.1 bt110.2.2 (([(⟨#[]⟩ : ByteArray), (⟨#[110, 101, 119]⟩ : ByteArray), (⟨#[97, 32, 98]⟩ : ByteArray)] : List ByteArray))).bind fun bt135 => (if x3.length < 2513169434916 then (bC_.l0 k (x3 ++ [(⟨wrap64 ((x3.length : Int) + 1), bt107.1, bt135.1, bt110.1⟩ : S78)]) (wrap64 (x4 - 1)) x1000 bt135.2.1 bt135.2.2) else (none)))))) else (some (x3, x1001, x1002))
def bC_.f (k : Nat) (s0_0 : List Int) (s0_1 : Int) (s0_2 : Int) : Option ((List (S78)) × Int × Int) := (az_.f s0_0 s0_1 s0_2 6).bind fun bt104 => (bC_.l0 k (([] : List (S78))) bt104.1 s0_0 bt104.2.1 bt104.2.2)
set_option maxHeartbeats 8000000 in
set_option maxRecDepth 100000 in
theorem bC_.calls (k : Nat) (g : Nat) (s0_0 : List Int) (s0_1 : Int) (s0_2 : Int) (r1 : List (S78)) (r2 : Int) (r3 : Int) (w0 w : World) (hI : aa_ w0 w g s0_0 s0_1 s0_2) (hB : Below w0.heap.size w0 w) (h : bC_.f k s0_0 s0_1 s0_2 = some (r1, r2, r3)) :
  Calls Try.prog 63 #[.pointer (some ⟨g, 0, none⟩)] w fun e w' => ∃ v0_ : Value, e = .returned (v0_) ∧ Kd.S k78 78 w' w.heap.size (fun _ => True) v0_ r1 ∧ aa_ w0 w' g s0_0 r2 r3 ∧ Below w0.heap.size w0 w' ∧ ab_ w w' g none := by
 have hu78 := Try.underlying78
 have HI0 := Aside0.mk hI
 have HK := Aside0.mk (ab_.refl w g none)
 have HL := Aside0.mk hB.size
 clear hI
 have HW0 := Aside0.mk hB.size
 have HB := Aside0.mk hB
 clear hB
 have H : ((az_.f s0_0 s0_1 s0_2 6).bind fun bt104 => (bC_.l0 k (([] : List (S78))) bt104.1 s0_0 bt104.2.1 bt104.2.2)) = some (r1, r2, r3) := h
 clear h
 obtain ⟨y101, hy101⟩ : ∃ y_ : List (S78), y_ = (([] : List (S78))) := ⟨_, rfl⟩
 replace H : ((az_.f s0_0 s0_1 s0_2 6).bind fun bt104 => (bC_.l0 k y101 bt104.1 s0_0 bt104.2.1 bt104.2.2)) = some (r1, r2, r3) := by first | (rw [hy101]; with_reducible exact H) | (have H2_ := (Option.bind_some _ _).symm.trans H; rw [hy101]; with_reducible exact H2_) | (have H2_ := (Option.bind_some _ _).symm.trans H; with_reducible exact H2_) | with_reducible exact H | (rw [hy101]; exact H) | exact H
 have Ny101 := Aside0.mk hy101
 clear hy101
 replace H := Option.bind_eq_some_iff.mp H
 obtain ⟨⟨t104, t105, t106⟩, A20, H⟩ := H
 (try dsimp only at H)
 have A2 := Aside0.mk A20
 clear A20
 have H' := Aside0.mk H
 clear H
 go_enter Try.func63, Try.ntmps63
 go_wp2_with (first | ((with_reducible refine aH_ (N := 9) rfl ?_); refine Kd.S_lit k78 _ 78 ?hg (N := 9) ?hd (xs := ([] : List (S78))) (inner := []) (ok := fun _ => True) (okp := fun _ => True) ?hr ?hp (fun _ hk => hk) trivial (Below.refl _ _) (Nat.le_refl _) (by simp) ?_; (case hd => rfl); (case hg => rfl); (case hr => (go_simp; try rfl)); (case hp => exact (Reps.none _ _)); intro v102 w3 ho4 hb hg_ hnew_; clear hg_ hnew_; (first | rw [← Ny101.out] at ho4 | (simp only [Int.reduceToNat] at ho4; rw [← Ny101.out] at ho4)); have HO103 := Aside0.mk (Kd.S_lower ho4 (bw_ (w := w) (g := g) (row := none) (by repeat (first | (with_reducible first | exact HK.out | apply ab_.set_ | apply aj_ | apply ak_ | apply ai_) | exact HK.out)))); replace HK := Aside0.mk (ab_.trans (by repeat (first | (with_reducible first | exact HK.out | apply ab_.set_ | apply aj_ | apply ak_ | apply ai_) | exact HK.out)) (ab_.of_below hb g none) (.inl rfl)); replace HB := Aside0.mk (ac_ (by repeat (first | (with_reducible first | exact HB.out | apply bA_ | apply bN_ | apply bD_ | refine ag_ ?_ (aa_.ge HI0.out)) | exact HB.out)) hb); replace HI0 := Aside0.mk (aa_.below (by repeat (first | (with_reducible first | exact HI0.out | apply aa_.alloc | apply aa_.drewN | apply aa_.drew | apply aa_.set_1 | apply aa_.set_2) | exact HI0.out)) hb); clear hb ho4) | ((with_reducible refine ah_ (f := 86) rfl ?_); refine aN_ (some 11) rfl rfl Try.func86 (by kernel_rfl) rfl #[.pointer (some ⟨g, 0, none⟩), .int .i64 6] rfl (by first | rfl | (simp only [lma_, lmc_, lmn_]; first | done | rfl)) ?_; (with_reducible refine (az_.calls g s0_0 s0_1 s0_2 6 t104 t105 t106 w0 _ ?side1 ?side2 A2.out).mono ?_); (case side1 => repeat (first | (with_reducible first | exact HI0.out | apply aa_.alloc | apply aa_.drewN | apply aa_.drew | apply aa_.set_1 | apply aa_.set_2) | exact HI0.out)); (case side2 => repeat (first | (with_reducible first | exact HB.out | apply bA_ | apply bN_ | apply bD_ | refine ag_ ?_ (aa_.ge HI0.out)) | exact HB.out)); rintro e w5 ⟨rfl, hi, hb, hk⟩; refine ⟨_, rfl, ?_⟩; replace HO103 := Aside0.mk (Kd.cl_ (Kd.S_keep (aa_.apartS (show aa_ w0 _ g s0_0 s0_1 s0_2 from by repeat (first | (with_reducible first | exact HI0.out | apply aa_.alloc | apply aa_.drewN | apply aa_.drew | apply aa_.set_1 | apply aa_.set_2) | exact HI0.out)) (sz HO103.out) (by decide)) hk (fun _ h => h.2)) (fun _ h => h.1)); replace HK := Aside0.mk (ab_.trans (by repeat (first | (with_reducible first | exact HK.out | apply ab_.set_ | apply aj_ | apply ak_ | apply ai_) | exact HK.out)) hk (.inl rfl)); replace HB := Aside0.mk (hb); replace HI0 := Aside0.mk (hi); (try clear hb)))
 (try simp only [Act.put, lsa_, ls0_, ls1_])
 go_loopg [3, 4] k (fun kq v3 v4 w' => ∃ (x3_1 : List (S78)) (x4_1 : Int) (x1001_1 : Int) (x1002_1 : Int), v4 = .int .i64 x4_1 ∧ Aside0 (bC_.l0 kq x3_1 x4_1 s0_0 x1001_1 x1002_1 = some (r1, r2, r3)) ∧ Aside0 (kq ≤ k) ∧ Aside0 (Kd.S k78 78 w' w.heap.size (fun _ => True) v3 x3_1) ∧ Aside0 (aa_ w0 w' g s0_0 x1001_1 x1002_1) ∧ Aside0 (ab_ w w' g none) ∧ Aside0 (Below w0.heap.size w0 w'))
 case atStart => exact ⟨(y101), (t104), (t105), (t106), (by first | rfl | (simp; done) | (simp [*]; done)), H', ⟨Nat.le_refl _⟩, ⟨sz HO103.out⟩, ⟨by repeat (first | (with_reducible first | exact HI0.out | apply aa_.alloc | apply aa_.drewN | apply aa_.drew | apply aa_.set_1 | apply aa_.set_2) | exact HI0.out)⟩, ⟨by repeat (first | (with_reducible first | exact HK.out | apply ab_.set_ | apply aj_ | apply ak_ | apply ai_) | exact HK.out)⟩, ⟨by repeat (first | (with_reducible first | exact HB.out | apply bA_ | apply bN_ | apply bD_ | refine ag_ ?_ (aa_.ge HI0.out)) | exact HB.out)⟩⟩
 case round =>
  clear H'
  obtain ⟨x3_1, x4_1, x1001_1, x1002_1, rfl, HA, HK1, HO_3, HI0, HK, HB⟩ := hrel
  cases gk with
  | zero => exact absurd HA.out (by simp [bC_.l0])
  | succ k1 =>
   have H := HA.out
   clear HA
   simp only [bC_.l0] at H
   by_cases c6 : x4_1 > 0
   rotate_left
   ·rw [if_neg c6] at H
    have c6b0 : decide (0 < x4_1) = false := decide_eq_false c6
    clear c6
    simp only [Option.some.injEq, Prod.mk.injEq] at H
    obtain ⟨rfl, rfl, rfl⟩ := H
    go_wp2
    go_ret
    exact ⟨_, by first | rfl | (simp [*, ao_, an_] <;> rfl), sz HO_3.out, by repeat (first | (with_reducible first | exact HI0.out | apply aa_.alloc | apply aa_.drewN | apply aa_.drew | apply aa_.set_1 | apply aa_.set_2) | exact HI0.out), by repeat (first | (with_reducible first | exact HB.out | apply bA_ | apply bN_ | apply bD_ | refine ag_ ?_ (aa_.ge HI0.out)) | exact HB.out), by repeat (first | (with_reducible first | exact HK.out | apply ab_.set_ | apply aj_ | apply ak_ | apply ai_) | exact HK.out)⟩
   rw [if_pos c6] at H
   have c6b0 : decide (0 < x4_1) = true := decide_eq_true c6
   clear c6
   replace H := Option.bind_eq_some_iff.mp H
   obtain ⟨⟨t107, t108, t109⟩, A70, H⟩ := H
   (try dsimp only at H)
   have A7 := Aside0.mk A70
   clear A70
   replace H := Option.bind_eq_some_iff.mp H
   obtain ⟨⟨t110, t113, t114⟩, A80, H⟩ := H
   (try dsimp only at H)
   have A8 := Aside0.mk A80
   clear A80
   have HC9 := Aside0.mk H
   clear H
   obtain ⟨Ao10, co10, eo10⟩ := Kd.S_slice HO_3.out
   subst eo10
   go_upto_if 25 with (first | ((with_reducible refine ah_ (f := 86) rfl ?_); refine aN_ (some 21) rfl rfl Try.func86 (by kernel_rfl) rfl #[.pointer (some ⟨g, 0, none⟩), .int .i64 (wrap64 ((x3_1.length : Int) + 1))] rfl (by first | rfl | (simp only [lma_, lmc_, lmn_]; first | done | rfl)) ?_; (with_reducible refine (az_.calls g s0_0 x1001_1 x1002_1 (wrap64 ((x3_1.length : Int) + 1)) t107 t108 t109 w0 _ ?side1 ?side2 A7.out).mono ?_); (case side1 => repeat (first | (with_reducible first | exact HI0.out | apply aa_.alloc | apply aa_.drewN | apply aa_.drew | apply aa_.set_1 | apply aa_.set_2) | exact HI0.out)); (case side2 => repeat (first | (with_reducible first | exact HB.out | apply bA_ | apply bN_ | apply bD_ | refine ag_ ?_ (aa_.ge HI0.out)) | exact HB.out)); rintro e w11 ⟨rfl, hi, hb, hk⟩; refine ⟨_, rfl, ?_⟩; replace HO_3 := Aside0.mk (Kd.cl_ (Kd.S_keep (aa_.apartS (show aa_ w0 _ g s0_0 x1001_1 x1002_1 from by repeat (first | (with_reducible first | exact HI0.out | apply aa_.alloc | apply aa_.drewN | apply aa_.drew | apply aa_.set_1 | apply aa_.set_2) | exact HI0.out)) (sz HO_3.out) (by decide)) hk (fun _ h => h.2)) (fun _ h => h.1)); replace HK := Aside0.mk (ab_.trans (by repeat (first | (with_reducible first | exact HK.out | apply ab_.set_ | apply aj_ | apply ak_ | apply ai_) | exact HK.out)) hk (.inl rfl)); replace HB := Aside0.mk (hb); replace HI0 := Aside0.mk (hi); (try clear hb)) | ((with_reducible refine ah_ (f := 60) rfl ?_); refine aN_ (some 23) rfl rfl Try.func60 (by kernel_rfl) rfl #[.pointer (some ⟨g, 0, none⟩)] rfl (by first | rfl | (simp only [lma_, lmc_, lmn_]; first | done | rfl)) ?_; (with_reducible refine (ay_.calls k1 g s0_0 t108 t109 t110 t113 t114 w0 _ ?side1 ?side2 A8.out).mono ?_); (case side1 => repeat (first | (with_reducible first | exact HI0.out | apply aa_.alloc | apply aa_.drewN | apply aa_.drew | apply aa_.set_1 | apply aa_.set_2) | exact HI0.out)); (case side2 => repeat (first | (with_reducible first | exact HB.out | apply bA_ | apply bN_ | apply bD_ | refine ag_ ?_ (aa_.ge HI0.out)) | exact HB.out)); rintro e w12 ⟨v111, rfl, ho0, hi, hb, hk⟩; refine ⟨_, rfl, ?_⟩; replace HO_3 := Aside0.mk (Kd.cl_ (Kd.S_told (Kd.S_oldK (aa_.apartS (show aa_ w0 _ g s0_0 t108 t109 from by repeat (first | (with_reducible first | exact HI0.out | apply aa_.alloc | apply aa_.drewN | apply aa_.drew | apply aa_.set_1 | apply aa_.set_2) | exact HI0.out)) (sz HO_3.out) (by decide)) hk) (Kd.aZ_ ho0)) (fun _ h_ => h_.1)); have HO112 := Aside0.mk (Kd.bt_ ho0 (bw_ (w := w) (g := g) (row := none) (by repeat (first | (with_reducible first | exact HK.out | apply ab_.set_ | apply aj_ | apply ak_ | apply ai_) | exact HK.out)))); replace HK := Aside0.mk (ab_.trans (by repeat (first | (with_reducible first | exact HK.out | apply ab_.set_ | apply aj_ | apply ak_ | apply ai_) | exact HK.out)) hk (.inl rfl)); replace HB := Aside0.mk (hb); replace HI0 := Aside0.mk (hi); (try clear hb); (try clear ho0)))
   (try simp only [Act.put, lsa_, ls0_, ls1_])
   have H := HC9.out
   clear HC9
   by_cases c13 : t107 > 0
   rotate_left
   ·rw [if_neg c13] at H
    have c13b0 : decide (0 < t107) = false := decide_eq_false c13
    clear c13
    (first | rw [c13b0] | (simp only [i64_w, i32_w]; rw [c13b0]) | (simp only [c13b1, Bool.not_true, Bool.not_false]) | (simp only [c13b0, Bool.not_true, Bool.not_false]) | skip)
    obtain ⟨y132, hy132⟩ : ∃ y_ : List ByteArray, y_ = (([(⟨#[]⟩ : ByteArray), (⟨#[110, 101, 119]⟩ : ByteArray), (⟨#[97, 32, 98]⟩ : ByteArray)] : List ByteArray)) := ⟨_, rfl⟩
    replace H : ((bO_.f s0_0 t113 t114 y132).bind fun bt135 => (if x3_1.length < 2513169434916 then (bC_.l0 k1 (x3_1 ++ [(⟨wrap64 ((x3_1.length : Int) + 1), t107, bt135.1, t110⟩ : S78)]) (wrap64 (x4_1 - 1)) s0_0 bt135.2.1 bt135.2.2) else (none))) = some (r1, r2, r3) := by first | (rw [hy132]; with_reducible exact H) | (have H2_ := (Option.bind_some _ _).symm.trans H; rw [hy132]; with_reducible exact H2_) | (have H2_ := (Option.bind_some _ _).symm.trans H; with_reducible exact H2_) | with_reducible exact H | (rw [hy132]; exact H) | exact H
    have Ny132 := Aside0.mk hy132
    clear hy132
    replace H := Option.bind_eq_some_iff.mp H
    obtain ⟨⟨t135, t136, t137⟩, A330, H⟩ := H
    (try dsimp only at H)
    have A33 := Aside0.mk A330
    clear A330
    by_cases c34 : x3_1.length < 2513169434916
    rotate_left
    ·rw [if_neg c34] at H
     exact absurd H (by simp)
    rw [if_pos c34] at H
    have LMc34 := Aside0.mk c34
    clear c34
    obtain ⟨y138, hy138⟩ : ∃ y_ : List (S78), y_ = (x3_1 ++ [(⟨wrap64 ((x3_1.length : Int) + 1), t107, t135, t110⟩ : S78)]) := ⟨_, rfl⟩
    replace H : (bC_.l0 k1 y138 (wrap64 (x4_1 - 1)) s0_0 t136 t137) = some (r1, r2, r3) := by first | (rw [hy138]; with_reducible exact H) | (have H2_ := (Option.bind_some _ _).symm.trans H; rw [hy138]; with_reducible exact H2_) | (have H2_ := (Option.bind_some _ _).symm.trans H; with_reducible exact H2_) | with_reducible exact H | (rw [hy138]; exact H) | exact H
    have Ny138 := Aside0.mk hy138
    clear hy138
    have H' := Aside0.mk H
    clear H
    obtain ⟨Ao35, co35, eo35⟩ := Kd.bn_ HO112.out
    subst eo35
    go_wp2_with (first | ((with_reducible refine aH_ (N := 8) rfl ?_); refine by_ ?hg (N := 8) ?hd (cs := #[.int .i64 0, .int .i64 0, .string (⟨#[]⟩ : ByteArray), .slice none 0 0]) (t := 78) ?hr ?_; (case hd => rfl); (case hg => rfl); (case hr => (go_simp; try rfl)); intro gb131 hg w36 hbox hb; replace HO_3 := Aside0.mk (Kd.cM_ (Kd.S_elderB (sz HO_3.out) gb131 (Nat.le_of_eq hg.symm)) hb); replace HO112 := Aside0.mk (Kd.aT_ (rz HO112.out) hb); replace HB := Aside0.mk (ac_ (by repeat (first | (with_reducible first | exact HB.out | apply bA_ | apply bN_ | apply bD_ | refine ag_ ?_ (aa_.ge HI0.out)) | exact HB.out)) hb); have BK131 := Aside0.mk (hbox); have GW131 := Aside0.mk ((by rw [hg]; exact (bw_ (w := w) (g := g) (row := none) (by repeat (first | (with_reducible first | exact HK.out | apply ab_.set_ | apply aj_ | apply ak_ | apply ai_) | exact HK.out))) : w.heap.size ≤ gb131)); have GE131 := Aside0.mk ((Nat.le_trans HW0.out (by rw [hg]; exact (bw_ (w := w) (g := g) (row := none) (by repeat (first | (with_reducible first | exact HK.out | apply ab_.set_ | apply aj_ | apply ak_ | apply ai_) | exact HK.out))) : w.heap.size ≤ gb131) : w0.heap.size ≤ gb131)); replace HK := Aside0.mk (ab_.trans (by repeat (first | (with_reducible first | exact HK.out | apply ab_.set_ | apply aj_ | apply ak_ | apply ai_) | exact HK.out)) (ab_.of_below hb g none) (.inl rfl)); have NB0_131 := Aside0.mk ((by rw [hg]; exact Nat.ne_of_lt (aa_.lt (show aa_ w0 _ g s0_0 t113 t114 from by repeat (first | (with_reducible first | exact HI0.out | apply aa_.alloc | apply aa_.drewN | apply aa_.drew | apply aa_.set_1 | apply aa_.set_2) | exact HI0.out))) : g ≠ gb131)); have NB131_0 := Aside0.mk ((by rw [hg]; exact Nat.ne_of_gt (aa_.lt (show aa_ w0 _ g s0_0 t113 t114 from by repeat (first | (with_reducible first | exact HI0.out | apply aa_.alloc | apply aa_.drewN | apply aa_.drew | apply aa_.set_1 | apply aa_.set_2) | exact HI0.out))) : gb131 ≠ g)); replace HI0 := Aside0.mk (aa_.below (by repeat (first | (with_reducible first | exact HI0.out | apply aa_.alloc | apply aa_.drewN | apply aa_.drew | apply aa_.set_1 | apply aa_.set_2) | exact HI0.out)) hb); clear hb hbox hg; have hnb37 := NB131_0.out; have hnc37 := NB0_131.out; obtain ⟨hcz38_0, hcz38_1, hcz38_2, hcz38_3⟩ := cz4_ BK131.out; obtain ⟨hfz38_0, hfz38_1, hfz38_2, hfz38_3⟩ := fz4_ BK131.out) | ((with_reducible refine aH_ (N := 40) rfl ?_); refine Kd.R_lit Kd.string _ 9 ?hg (N := 40) ?hd (xs := ([(⟨#[]⟩ : ByteArray), (⟨#[110, 101, 119]⟩ : ByteArray), (⟨#[97, 32, 98]⟩ : ByteArray)] : List ByteArray)) (inner := [.string (⟨#[]⟩ : ByteArray), .string (⟨#[110, 101, 119]⟩ : ByteArray), .string (⟨#[97, 32, 98]⟩ : ByteArray)]) (ok := fun _ => True) (okp := fun _ => True) ?hr ?hp (fun _ hk => hk) trivial (Below.refl _ _) (Nat.le_refl _) (by simp) ?_; (case hd => rfl); (case hg => rfl); (case hr => (go_simp; try rfl)); (case hp => exact (Reps.one (show Kd.M Kd.string _ _ _ (⟨#[]⟩ : ByteArray) [.string (⟨#[]⟩ : ByteArray)] from rfl) (Reps.one (show Kd.M Kd.string _ _ _ (⟨#[110, 101, 119]⟩ : ByteArray) [.string (⟨#[110, 101, 119]⟩ : ByteArray)] from rfl) (Reps.one (show Kd.M Kd.string _ _ _ (⟨#[97, 32, 98]⟩ : ByteArray) [.string (⟨#[97, 32, 98]⟩ : ByteArray)] from rfl) (Reps.none _ _))))); intro v133 w39 ho40 hb hg_ hnew_; clear hg_ hnew_; (first | rw [← Ny132.out] at ho40 | (simp only [Int.reduceToNat] at ho40; rw [← Ny132.out] at ho40)); replace HO_3 := Aside0.mk (Kd.cM_ (sz (Kd.cl_ (Kd.S_far (p := ⟨gb131, 3, none⟩) (Kd.S_far (p := ⟨gb131, 2, none⟩) (Kd.S_far (p := ⟨gb131, 1, none⟩) (Kd.S_far (p := ⟨gb131, 0, none⟩) (Kd.cl_ HO_3.out (fun k_ hk => (⟨hk, hk.2⟩ : _ ∧ k_ ≠ gb131))) (fun _ hk => hk.2) (.int .i64 (wrap64 ((x3_1.length : Int) + 1)))) (fun _ hk => hk.2) (.int .i64 t107)) (fun _ hk => hk.2) (.string (⟨#[]⟩ : ByteArray))) (fun _ hk => hk.2) (.slice Ao35 t110.length co35)) (fun _ h_ => h_.1))) hb); replace HO112 := Aside0.mk (Kd.aT_ (rz (Kd.aB_ (Kd.R_far (p := ⟨gb131, 3, none⟩) (Kd.R_far (p := ⟨gb131, 2, none⟩) (Kd.R_far (p := ⟨gb131, 1, none⟩) (Kd.R_far (p := ⟨gb131, 0, none⟩) (Kd.bs_ HO112.out BK131.out (by decide)) (fun _ hk => hk.2) (.int .i64 (wrap64 ((x3_1.length : Int) + 1)))) (fun _ hk => hk.2) (.int .i64 t107)) (fun _ hk => hk.2) (.string (⟨#[]⟩ : ByteArray))) (fun _ hk => hk.2) (.slice Ao35 t110.length co35)) (fun _ h_ => h_.1))) hb); have HO134 := Aside0.mk (Kd.bt_ ho40 (bw_ (w := w) (g := g) (row := none) (by repeat (first | (with_reducible first | exact HK.out | apply ab_.set_ | apply aj_ | apply ak_ | apply ai_ | refine aC_ ?_ GW131.out _) | exact HK.out)))); replace BK131 := Aside0.mk (bb_ (g := gb131) (o := .cells #[.int .i64 (wrap64 ((x3_1.length : Int) + 1)), .int .i64 t107, .string (⟨#[]⟩ : ByteArray), .slice Ao35 t110.length co35] 78 (0, 0)) (by exact kj4_3 (kj4_2 (kj4_1 (kj4_0 (kz BK131.out))))) hb); replace HK := Aside0.mk (ab_.trans (by repeat (first | (with_reducible first | exact HK.out | apply ab_.set_ | apply aj_ | apply ak_ | apply ai_ | refine aC_ ?_ GW131.out _) | exact HK.out)) (ab_.of_below hb g none) (.inl rfl)); replace HB := Aside0.mk (ac_ (by repeat (first | (with_reducible first | exact HB.out | apply bA_ | apply bN_ | apply bD_ | refine ag_ ?_ (aa_.ge HI0.out) | refine ag_ ?_ GE131.out) | exact HB.out)) hb); replace HI0 := Aside0.mk (aa_.below (show aa_ w0 ((((w36.setCell ⟨gb131, 0, none⟩ (.int .i64 (wrap64 ((x3_1.length : Int) + 1)))).setCell ⟨gb131, 1, none⟩ (.int .i64 t107)).setCell ⟨gb131, 2, none⟩ (.string (⟨#[]⟩ : ByteArray))).setCell ⟨gb131, 3, none⟩ (.slice Ao35 t110.length co35)) g s0_0 t113 t114 from by repeat (first | (with_reducible first | exact HI0.out | apply aa_.alloc | apply aa_.drewN | apply aa_.drew | apply aa_.set_1 | apply aa_.set_2 | refine aa_.far ?_ NB0_131.out _) | exact HI0.out)) hb); clear hb ho40; obtain ⟨Ao41, co41, eo41⟩ := Kd.bn_ HO134.out; subst eo41) | ((with_reducible refine ah_ (f := 89) rfl ?_); refine aN_ (some 41) rfl rfl Try.func89 (by kernel_rfl) rfl #[.pointer (some ⟨g, 0, none⟩), .slice Ao41 y132.length co41] rfl (by first | rfl | (simp only [lma_, lmc_, lmn_]; first | done | rfl)) ?_; (with_reducible refine (bO_.calls g s0_0 t113 t114 _ _ y132 t135 t136 t137 w0 _ ?side1 ?side2 ?side3 ?side4 ?side5 A33.out).mono ?_); (case side1 => repeat (first | (with_reducible first | exact HI0.out | apply aa_.alloc | apply aa_.drewN | apply aa_.drew | apply aa_.set_1 | apply aa_.set_2 | refine aa_.far ?_ NB0_131.out _) | exact HI0.out)); (case side2 => repeat (first | (with_reducible first | exact HB.out | apply bA_ | apply bN_ | apply bD_ | refine ag_ ?_ (aa_.ge HI0.out) | refine ag_ ?_ GE131.out) | exact HB.out)); (case side3 => exact cz (Kd.as_ HO134.out).2.2); (case side4 => exact (Kd.as_ HO134.out).2.1); (case side5 => exact far_slice (aa_.own_ne HI0.out HO134.out (by decide))); rintro e w42 ⟨rfl, hi, hb, hk⟩; refine ⟨_, rfl, ?_⟩; replace HO_3 := Aside0.mk (Kd.cl_ (Kd.S_keep (aa_.apartS (show aa_ w0 _ g s0_0 t113 t114 from by repeat (first | (with_reducible first | exact HI0.out | apply aa_.alloc | apply aa_.drewN | apply aa_.drew | apply aa_.set_1 | apply aa_.set_2 | refine aa_.far ?_ NB0_131.out _) | exact HI0.out)) (sz HO_3.out) (by decide)) hk (fun _ h => h.2)) (fun _ h => h.1)); replace HO112 := Aside0.mk (Kd.aB_ (Kd.cY_ (aa_.apart (show aa_ w0 _ g s0_0 t113 t114 from by repeat (first | (with_reducible first | exact HI0.out | apply aa_.alloc | apply aa_.drewN | apply aa_.drew | apply aa_.set_1 | apply aa_.set_2 | refine aa_.far ?_ NB0_131.out _) | exact HI0.out)) (rz HO112.out) (by decide)) hk (fun _ h => h.2)) (fun _ h => h.1)); replace BK131 := Aside0.mk (ab_.blk hk (g' := gb131) (o := .cells #[.int .i64 (wrap64 ((x3_1.length : Int) + 1)), .int .i64 t107, .string (⟨#[]⟩ : ByteArray), .slice Ao35 t110.length co35] 78 (0, 0)) (kz BK131.out) NB131_0.out (by simp)); replace HO134 := Aside0.mk (Kd.aB_ (Kd.cY_ (aa_.apart (show aa_ w0 _ g s0_0 t113 t114 from by repeat (first | (with_reducible first | exact HI0.out | apply aa_.alloc | apply aa_.drewN | apply aa_.drew | apply aa_.set_1 | apply aa_.set_2 | refine aa_.far ?_ NB0_131.out _) | exact HI0.out)) (rz HO134.out) (by decide)) hk (fun _ h => h.2)) (fun _ h => h.1)); replace HK := Aside0.mk (ab_.trans (by repeat (first | (with_reducible first | exact HK.out | apply ab_.set_ | apply aj_ | apply ak_ | apply ai_ | refine aC_ ?_ GW131.out _) | exact HK.out)) hk (.inl rfl)); replace HB := Aside0.mk (hb); replace HI0 := Aside0.mk (hi); (try clear hb); obtain ⟨hcz43_0, hcz43_1, hcz43_2, hcz43_3⟩ := cz4_ BK131.out; obtain ⟨hfz43_0, hfz43_1, hfz43_2, hfz43_3⟩ := fz4_ BK131.out) | ((with_reducible refine gate_store (t := 9) (p := 42) rfl ?_); refine store_event (t := 9) (p := 42) (v := ?vo_w44) (w1 := (w42.setCell ⟨gb131, 2, none⟩ (.string t135))) ?hg ?ho ?hn ?hr ?_; (case ho => rfl); (case hg => rfl); (case hn => rfl); (case hr => (go_simp; try rfl)); intro w44 hw; replace HO_3 : Aside0 (Kd.S k78 78 w44 w.heap.size (fun k_ => some k_ ≠ (.slice Ao35 t110.length co35 : Value).ownBlock ∧ k_ ≠ gb131) (.slice Ao10 x3_1.length co10) x3_1) := ⟨(by rw [hw]; exact (sz (Kd.cl_ (Kd.S_far (p := ⟨gb131, 2, none⟩) (Kd.cl_ HO_3.out (fun k_ hk => (⟨hk, hk.2⟩ : _ ∧ k_ ≠ gb131))) (fun _ hk => hk.2) (.string t135)) (fun _ hk => ⟨hk.1.1.2, hk.1.2⟩))))⟩; replace HO112 : Aside0 (Kd.R k63 63 w44 w.heap.size (fun _ => True) (.slice Ao35 t110.length co35) t110) := ⟨(by rw [hw]; exact (rz (Kd.aB_ (Kd.R_far (p := ⟨gb131, 2, none⟩) (Kd.bs_ HO112.out BK131.out (by decide)) (fun _ hk => hk.2) (.string t135)) (fun _ hk => trivial))))⟩; replace HO134 : Aside0 (Kd.R Kd.string 9 w44 w.heap.size (fun _ => True) (.slice Ao41 y132.length co41) y132) := ⟨(by rw [hw]; exact (rz (Kd.aB_ (Kd.R_far (p := ⟨gb131, 2, none⟩) (Kd.bs_ HO134.out BK131.out (by decide)) (fun _ hk => hk.2) (.string t135)) (fun _ hk => trivial))))⟩; replace BK131 : Aside0 (w44.heap[gb131]? = some (.cells #[.int .i64 (wrap64 ((x3_1.length : Int) + 1)), .int .i64 t107, .string t135, .slice Ao35 t110.length co35] 78 (0, 0))) := ⟨(by rw [hw]; exact (by exact kj4_2 (kz BK131.out)))⟩; replace HK : Aside0 (ab_ w w44 g none) := ⟨(by rw [hw]; exact (by repeat (first | (with_reducible first | exact HK.out | apply ab_.set_ | apply aj_ | apply ak_ | apply ai_ | refine aC_ ?_ GW131.out _) | exact HK.out)))⟩; replace HB : Aside0 (Below w0.heap.size w0 w44) := ⟨(by rw [hw]; exact (by repeat (first | (with_reducible first | exact HB.out | apply bA_ | apply bN_ | apply bD_ | refine ag_ ?_ (aa_.ge HI0.out) | refine ag_ ?_ GE131.out) | exact HB.out)))⟩; replace HI0 : Aside0 (aa_ w0 w44 g s0_0 t136 t137) := ⟨(by rw [hw]; exact (by repeat (first | (with_reducible first | exact HI0.out | apply aa_.alloc | apply aa_.drewN | apply aa_.drew | apply aa_.set_1 | apply aa_.set_2 | refine aa_.far ?_ NB0_131.out _) | exact HI0.out)))⟩; clear hw; obtain ⟨hcz45_0, hcz45_1, hcz45_2, hcz45_3⟩ := cz4_ BK131.out; obtain ⟨hfz45_0, hfz45_1, hfz45_2, hfz45_3⟩ := fz4_ BK131.out) | ((with_reducible refine be_ (b := .append) (xs := #[.tmp 43, .tmp 45]) rfl ?_); at_builtin; refine Kd.S_append k78 w.heap.size rfl (.tmp 43) (.tmp 45) 38 78 (.agg #[(.int .i64 0), (.int .i64 0), (.string ⟨#[]⟩), (.slice none 0 0)]) 56 rfl Try.underlying38 info78 rfl (by decide) (by omega) (.slice Ao10 x3_1.length co10) x3_1 (⟨wrap64 ((x3_1.length : Int) + 1), t107, t135, t110⟩ : S78) [.int .i64 (wrap64 ((x3_1.length : Int) + 1)), .int .i64 t107, .string t135, .slice Ao35 t110.length co35] (fun k_ => k_ ≠ gb131) (fun k_ => some k_ = (.slice Ao35 t110.length co35 : Value).ownBlock) rfl rfl ?aP (fun k_ hk_ => ((Kd.aB_ (ok' := fun k_ => ((fun k_ => k_ ≠ gb131)) k_ ∧ some k_ ≠ (.slice Ao10 x3_1.length co10 : Value).ownBlock) (Kd.bs_ (Kd.cn_ (HO112.out) (Kd.S_typed HO_3.out) (by decide)) BK131.out (by decide)) (fun k_ hk => ⟨hk.2, hk.1.2⟩))).1 k_ hk_.symm) ?aF ?aO (Below.refl _ _) ?aS ?aL ?_; (case aP => exact k78_mkM _ _ _ (⟨wrap64 ((x3_1.length : Int) + 1), t107, t135, t110⟩ : S78) (Kd.aB_ (Kd.cD_ rfl (Kd.aB_ (ok' := fun k_ => ((fun k_ => k_ ≠ gb131)) k_ ∧ some k_ ≠ (.slice Ao10 x3_1.length co10 : Value).ownBlock) (Kd.bs_ (Kd.cn_ (HO112.out) (Kd.S_typed HO_3.out) (by decide)) BK131.out (by decide)) (fun k_ hk => ⟨hk.2, hk.1.2⟩))) (fun _ h_ => h_))); (case aF => exact (fun k_ hk => Kd.cV_ (g := gb131) (o := .cells #[.int .i64 (wrap64 ((x3_1.length : Int) + 1)), .int .i64 t107, .string t135, .slice Ao35 t110.length co35] 78 (0, 0)) (kz BK131.out) k_ hk)); (case aO => exact (sz (Kd.cl_ HO_3.out (fun k_ hk => ⟨hk.2, fun e_ => hk.1 e_⟩)))); (case aS => exact (bw_ (w := w) (g := g) (row := none) (by repeat (first | (with_reducible first | exact HK.out | apply ab_.set_ | apply aj_ | apply ak_ | apply ai_ | refine aC_ ?_ GW131.out _) | exact HK.out)))); (case aL => have := LMc34.out; omega); intro v139 w46 ho hb hg hat; rw [← Ny138.out] at ho; replace BK131 := Aside0.mk (bS_ (g := gb131) (o := .cells #[.int .i64 (wrap64 ((x3_1.length : Int) + 1)), .int .i64 t107, .string t135, .slice Ao35 t110.length co35] 78 (0, 0)) (kz BK131.out) hg (Kd.S_away HO_3.out (fun _ hk => hk.2))); replace HO134 := Aside0.mk (Kd.R_over' (rz HO134.out) (Kd.S_typed (sz HO_3.out)) (by decide) hg); replace HB := Aside0.mk (dh_ (by repeat (first | (with_reducible first | exact HB.out | apply bA_ | apply bN_ | apply bD_ | refine ag_ ?_ (aa_.ge HI0.out) | refine ag_ ?_ GE131.out) | exact HB.out)) HL.out hb); replace HI0 := Aside0.mk (aa_.grown (by repeat (first | (with_reducible first | exact HI0.out | apply aa_.alloc | apply aa_.drewN | apply aa_.drew | apply aa_.set_1 | apply aa_.set_2 | refine aa_.far ?_ NB0_131.out _) | exact HI0.out)) hg (aa_.own_neS HI0.out HO_3.out (by decide))); replace HK := Aside0.mk (ab_.trans (by repeat (first | (with_reducible first | exact HK.out | apply ab_.set_ | apply aj_ | apply ak_ | apply ai_ | refine aC_ ?_ GW131.out _) | exact HK.out)) (ab_.of_grown hg g) (Kd.S_base2 HO_3.out)); have HO140 := Aside0.mk (ho); clear HO_3; clear HO112; clear ho hb hg hat))
    go_roundg k1
    case measure => have := HK1.out; omega
    case rel => exact ⟨(y138), (wrap64 (x4_1 - 1)), (t136), (t137), (by first | rfl | (simp; done) | (simp [*]; done)), H', ⟨by have := HK1.out; omega⟩, ⟨sz (Kd.cl_ HO140.out (fun _ hk => trivial))⟩, ⟨by repeat (first | (with_reducible first | exact HI0.out | apply aa_.alloc | apply aa_.drewN | apply aa_.drew | apply aa_.set_1 | apply aa_.set_2 | refine aa_.far ?_ NB0_131.out _) | exact HI0.out)⟩, ⟨by repeat (first | (with_reducible first | exact HK.out | apply ab_.set_ | apply aj_ | apply ak_ | apply ai_ | refine aC_ ?_ GW131.out _) | exact HK.out)⟩, ⟨by repeat (first | (with_reducible first | exact HB.out | apply bA_ | apply bN_ | apply bD_ | refine ag_ ?_ (aa_.ge HI0.out) | refine ag_ ?_ GE131.out) | exact HB.out)⟩⟩
   rw [if_pos c13] at H
   have c13b0 : decide (0 < t107) = true := decide_eq_true c13
   clear c13
   (first | rw [c13b0] | (simp only [i64_w, i32_w]; rw [c13b0]) | (simp only [c13b1, Bool.not_true, Bool.not_false]) | (simp only [c13b0, Bool.not_true, Bool.not_false]) | skip)
   obtain ⟨ji14, hji14⟩ : ∃ j_ : Int, (wrap64 (t107 - 1)) = j_ := ⟨_, rfl⟩
   replace H : (if 0 ≤ (ji14) then (if (ji14) < (x3_1.length : Int) then ((aw_.f k1 s0_0 t113 t114 ((ar_ x3_1 (ji14)).f3)).bind fun bt116 => ((bO_.f s0_0 bt116.2.1 bt116.2.2 (([(⟨#[]⟩ : ByteArray), (⟨#[110, 101, 119]⟩ : ByteArray), (⟨#[97, 32, 98]⟩ : ByteArray)] : List ByteArray))).bind fun bt125 => (if x3_1.length < 2513169434916 then (bC_.l0 k1 (x3_1 ++ [(⟨wrap64 ((x3_1.length : Int) + 1), t107, bt125.1, bt116.1⟩ : S78)]) (wrap64 (x4_1 - 1)) s0_0 bt125.2.1 bt125.2.2) else (none)))) else (none)) else (none)) = some (r1, r2, r3) := by first | (rw [hji14] at H; exact H) | (simp only [hji14] at H ⊢; exact H)
   have hji14w : (IntKind.i64.wrap (t107 - 1)) = ji14 := (i64_w _).trans hji14
   by_cases c15 : 0 ≤ (ji14)
   rotate_left
   ·rw [if_neg c15] at H
    exact absurd H (by simp)
   rw [if_pos c15] at H
   have c15b0 : decide (0 ≤ (ji14)) = true := decide_eq_true c15
   clear c15
   by_cases c16 : (ji14) < (x3_1.length : Int)
   rotate_left
   ·rw [if_neg c16] at H
    exact absurd H (by simp)
   rw [if_pos c16] at H
   have c16b0 : decide ((ji14) < (x3_1.length : Int)) = true := decide_eq_true c16
   clear c16
   replace H := Option.bind_eq_some_iff.mp H
   obtain ⟨⟨t116, t119, t120⟩, A170, H⟩ := H
   (try dsimp only at H)
   have A17 := Aside0.mk A170
   clear A170
   obtain ⟨y122, hy122⟩ : ∃ y_ : List ByteArray, y_ = (([(⟨#[]⟩ : ByteArray), (⟨#[110, 101, 119]⟩ : ByteArray), (⟨#[97, 32, 98]⟩ : ByteArray)] : List ByteArray)) := ⟨_, rfl⟩
   replace H : ((bO_.f s0_0 t119 t120 y122).bind fun bt125 => (if x3_1.length < 2513169434916 then (bC_.l0 k1 (x3_1 ++ [(⟨wrap64 ((x3_1.length : Int) + 1), t107, bt125.1, t116⟩ : S78)]) (wrap64 (x4_1 - 1)) s0_0 bt125.2.1 bt125.2.2) else (none))) = some (r1, r2, r3) := by first | (rw [hy122]; with_reducible exact H) | (have H2_ := (Option.bind_some _ _).symm.trans H; rw [hy122]; with_reducible exact H2_) | (have H2_ := (Option.bind_some _ _).symm.trans H; with_reducible exact H2_) | with_reducible exact H | (rw [hy122]; exact H) | exact H
   have Ny122 := Aside0.mk hy122
   clear hy122
   replace H := Option.bind_eq_some_iff.mp H
   obtain ⟨⟨t125, t126, t127⟩, A180, H⟩ := H
   (try dsimp only at H)
   have A18 := Aside0.mk A180
   clear A180
   by_cases c19 : x3_1.length < 2513169434916
   rotate_left
   ·rw [if_neg c19] at H
    exact absurd H (by simp)
   rw [if_pos c19] at H
   have LMc19 := Aside0.mk c19
   clear c19
   obtain ⟨y128, hy128⟩ : ∃ y_ : List (S78), y_ = (x3_1 ++ [(⟨wrap64 ((x3_1.length : Int) + 1), t107, t125, t116⟩ : S78)]) := ⟨_, rfl⟩
   replace H : (bC_.l0 k1 y128 (wrap64 (x4_1 - 1)) s0_0 t126 t127) = some (r1, r2, r3) := by first | (rw [hy128]; with_reducible exact H) | (have H2_ := (Option.bind_some _ _).symm.trans H; rw [hy128]; with_reducible exact H2_) | (have H2_ := (Option.bind_some _ _).symm.trans H; with_reducible exact H2_) | with_reducible exact H | (rw [hy128]; exact H) | exact H
   have Ny128 := Aside0.mk hy128
   clear hy128
   have H' := Aside0.mk H
   clear H
   have p115 : 0 ≤ ((ji14) : Int) := of_decide_eq_true (by assumption)
   have q115 : (ji14) < (x3_1.length : Int) := of_decide_eq_true (by assumption)
   obtain ⟨ad115, A115_3, c115_3, e115, hx115_0, hx115_1, hx115_2, hx115_3, hl115_3, hi115_3⟩ := dp_ (Kd.bK_ HO_3.out).2.2 (ji14) p115 q115
   cases e115
   obtain ⟨ce115, hce115, hMe115, hcc115⟩ := Kd.S_get HO_3.out z78 (ji14) p115 (by first | exact q115 | exact of_decide_eq_true (by assumption) | (have e_ := (Kd.bK_ HO_3.out).1; omega))
   obtain ⟨ve115_3, rfl, ge115_3⟩ := k78_openM hMe115
   have hv115_3 := hcc115 3 _ rfl
   rw [cS_ _ _ 3 (by omega)] at hv115_3
   replace hv115_3 := Option.some.inj (hv115_3.symm.trans hx115_3)
   rw [hv115_3] at ge115_3
   have HL115_3 := Aside0.mk (show Kd.R k63 63 _ _ _ _ ((ar_ x3_1 (ji14)).f3) from ge115_3)
   clear hv115_3 ge115_3
   clear hcc115 hce115
   have HR115_3 := Aside0.mk hi115_3
   have HC115_3 := Aside0.mk hl115_3
   clear hi115_3 hl115_3
   replace p115 := eq_true p115
   replace q115 := eq_true q115
   go_wp2_with (first | ((with_reducible refine ah_ (f := 61) rfl ?_); refine aN_ (some 33) rfl rfl Try.func61 (by kernel_rfl) rfl #[.pointer (some ⟨g, 0, none⟩), .slice A115_3 ((ar_ x3_1 (ji14)).f3).length c115_3] rfl (by (try simp only [List.map_toArray, List.map_cons, List.map_nil]); first | done | (simp only [hji14]; rfl) | rfl | (simp only [List.length_drop, List.length_take]; rfl)) ?_; (with_reducible refine (aw_.calls k1 g s0_0 t113 t114 _ _ ((ar_ x3_1 (ji14)).f3) t116 t119 t120 w0 _ ?side1 ?side2 ?side3 ?side4 A17.out).mono ?_); (case side1 => repeat (first | (with_reducible first | exact HI0.out | apply aa_.alloc | apply aa_.drewN | apply aa_.drew | apply aa_.set_1 | apply aa_.set_2) | exact HI0.out)); (case side2 => repeat (first | (with_reducible first | exact HB.out | apply bA_ | apply bN_ | apply bD_ | refine ag_ ?_ (aa_.ge HI0.out)) | exact HB.out)); (case side3 => exact Kd.C_foot_own (aa_.apart (show aa_ w0 _ g s0_0 t113 t114 from by repeat (first | (with_reducible first | exact HI0.out | apply aa_.alloc | apply aa_.drewN | apply aa_.drew | apply aa_.set_1 | apply aa_.set_2) | exact HI0.out)) (rz HL115_3.out) (by decide)) (fun _ h_ => h_.2)); (case side4 => exact HC115_3.out); rintro e w20 ⟨v117, rfl, ho0, hi, hb, hk⟩; refine ⟨_, rfl, ?_⟩; replace HO_3 := Aside0.mk (Kd.cl_ (Kd.S_told (Kd.S_oldK (aa_.apartS (show aa_ w0 _ g s0_0 t113 t114 from by repeat (first | (with_reducible first | exact HI0.out | apply aa_.alloc | apply aa_.drewN | apply aa_.drew | apply aa_.set_1 | apply aa_.set_2) | exact HI0.out)) (sz HO_3.out) (by decide)) hk) (Kd.aZ_ ho0)) (fun _ h_ => h_.1)); have HO118 := Aside0.mk (Kd.bt_ (Kd.bB_ (Kd.bB_ ho0 (Kd.R_lt (rz HO112.out))) (Kd.R_lt (rz HL115_3.out))) (bw_ (w := w) (g := g) (row := none) (by repeat (first | (with_reducible first | exact HK.out | apply ab_.set_ | apply aj_ | apply ak_ | apply ai_) | exact HK.out)))); replace HO112 := Aside0.mk (Kd.aB_ (Kd.R_told (Kd.R_oldK (aa_.apart (show aa_ w0 _ g s0_0 t113 t114 from by repeat (first | (with_reducible first | exact HI0.out | apply aa_.alloc | apply aa_.drewN | apply aa_.drew | apply aa_.set_1 | apply aa_.set_2) | exact HI0.out)) (rz HO112.out) (by decide)) hk) (Kd.aZ_ ho0)) (fun _ h_ => h_.1)); replace HL115_3 := Aside0.mk (Kd.aB_ (Kd.R_told (Kd.R_oldK (aa_.apart (show aa_ w0 _ g s0_0 t113 t114 from by repeat (first | (with_reducible first | exact HI0.out | apply aa_.alloc | apply aa_.drewN | apply aa_.drew | apply aa_.set_1 | apply aa_.set_2) | exact HI0.out)) (rz HL115_3.out) (by decide)) hk) (Kd.aZ_ ho0)) (fun _ h_ => h_.1)); replace HK := Aside0.mk (ab_.trans (by repeat (first | (with_reducible first | exact HK.out | apply ab_.set_ | apply aj_ | apply ak_ | apply ai_) | exact HK.out)) hk (.inl rfl)); replace HB := Aside0.mk (hb); replace HI0 := Aside0.mk (hi); (try clear hb); (try clear ho0); obtain ⟨Ao21, co21, eo21⟩ := Kd.bn_ HO118.out; subst eo21) | ((with_reducible refine aH_ (N := 8) rfl ?_); refine by_ ?hg (N := 8) ?hd (cs := #[.int .i64 0, .int .i64 0, .string (⟨#[]⟩ : ByteArray), .slice none 0 0]) (t := 78) ?hr ?_; (case hd => rfl); (case hg => rfl); (case hr => (go_simp; try rfl)); intro gb121 hg w22 hbox hb; replace HO_3 := Aside0.mk (Kd.cM_ (Kd.S_elderB (sz HO_3.out) gb121 (Nat.le_of_eq hg.symm)) hb); replace HO112 := Aside0.mk (Kd.aT_ (rz HO112.out) hb); replace HL115_3 := Aside0.mk (Kd.aT_ (rz HL115_3.out) hb); replace HO118 := Aside0.mk (Kd.aT_ (rz HO118.out) hb); replace HB := Aside0.mk (ac_ (by repeat (first | (with_reducible first | exact HB.out | apply bA_ | apply bN_ | apply bD_ | refine ag_ ?_ (aa_.ge HI0.out)) | exact HB.out)) hb); have BK121 := Aside0.mk (hbox); have GW121 := Aside0.mk ((by rw [hg]; exact (bw_ (w := w) (g := g) (row := none) (by repeat (first | (with_reducible first | exact HK.out | apply ab_.set_ | apply aj_ | apply ak_ | apply ai_) | exact HK.out))) : w.heap.size ≤ gb121)); have GE121 := Aside0.mk ((Nat.le_trans HW0.out (by rw [hg]; exact (bw_ (w := w) (g := g) (row := none) (by repeat (first | (with_reducible first | exact HK.out | apply ab_.set_ | apply aj_ | apply ak_ | apply ai_) | exact HK.out))) : w.heap.size ≤ gb121) : w0.heap.size ≤ gb121)); replace HK := Aside0.mk (ab_.trans (by repeat (first | (with_reducible first | exact HK.out | apply ab_.set_ | apply aj_ | apply ak_ | apply ai_) | exact HK.out)) (ab_.of_below hb g none) (.inl rfl)); have NB0_121 := Aside0.mk ((by rw [hg]; exact Nat.ne_of_lt (aa_.lt (show aa_ w0 _ g s0_0 t119 t120 from by repeat (first | (with_reducible first | exact HI0.out | apply aa_.alloc | apply aa_.drewN | apply aa_.drew | apply aa_.set_1 | apply aa_.set_2) | exact HI0.out))) : g ≠ gb121)); have NB121_0 := Aside0.mk ((by rw [hg]; exact Nat.ne_of_gt (aa_.lt (show aa_ w0 _ g s0_0 t119 t120 from by repeat (first | (with_reducible first | exact HI0.out | apply aa_.alloc | apply aa_.drewN | apply aa_.drew | apply aa_.set_1 | apply aa_.set_2) | exact HI0.out))) : gb121 ≠ g)); replace HI0 := Aside0.mk (aa_.below (by repeat (first | (with_reducible first | exact HI0.out | apply aa_.alloc | apply aa_.drewN | apply aa_.drew | apply aa_.set_1 | apply aa_.set_2) | exact HI0.out)) hb); clear hb hbox hg; have hnb23 := NB121_0.out; have hnc23 := NB0_121.out; obtain ⟨hcz24_0, hcz24_1, hcz24_2, hcz24_3⟩ := cz4_ BK121.out; obtain ⟨hfz24_0, hfz24_1, hfz24_2, hfz24_3⟩ := fz4_ BK121.out) | ((with_reducible refine aH_ (N := 40) rfl ?_); refine Kd.R_lit Kd.string _ 9 ?hg (N := 40) ?hd (xs := ([(⟨#[]⟩ : ByteArray), (⟨#[110, 101, 119]⟩ : ByteArray), (⟨#[97, 32, 98]⟩ : ByteArray)] : List ByteArray)) (inner := [.string (⟨#[]⟩ : ByteArray), .string (⟨#[110, 101, 119]⟩ : ByteArray), .string (⟨#[97, 32, 98]⟩ : ByteArray)]) (ok := fun _ => True) (okp := fun _ => True) ?hr ?hp (fun _ hk => hk) trivial (Below.refl _ _) (Nat.le_refl _) (by simp) ?_; (case hd => rfl); (case hg => rfl); (case hr => (go_simp; try rfl)); (case hp => exact (Reps.one (show Kd.M Kd.string _ _ _ (⟨#[]⟩ : ByteArray) [.string (⟨#[]⟩ : ByteArray)] from rfl) (Reps.one (show Kd.M Kd.string _ _ _ (⟨#[110, 101, 119]⟩ : ByteArray) [.string (⟨#[110, 101, 119]⟩ : ByteArray)] from rfl) (Reps.one (show Kd.M Kd.string _ _ _ (⟨#[97, 32, 98]⟩ : ByteArray) [.string (⟨#[97, 32, 98]⟩ : ByteArray)] from rfl) (Reps.none _ _))))); intro v123 w25 ho26 hb hg_ hnew_; clear hg_ hnew_; (first | rw [← Ny122.out] at ho26 | (simp only [Int.reduceToNat] at ho26; rw [← Ny122.out] at ho26)); replace HO_3 := Aside0.mk (Kd.cM_ (sz (Kd.cl_ (Kd.S_far (p := ⟨gb121, 3, none⟩) (Kd.S_far (p := ⟨gb121, 2, none⟩) (Kd.S_far (p := ⟨gb121, 1, none⟩) (Kd.S_far (p := ⟨gb121, 0, none⟩) (Kd.cl_ HO_3.out (fun k_ hk => (⟨hk, hk.2⟩ : _ ∧ k_ ≠ gb121))) (fun _ hk => hk.2) (.int .i64 (wrap64 ((x3_1.length : Int) + 1)))) (fun _ hk => hk.2) (.int .i64 t107)) (fun _ hk => hk.2) (.string (⟨#[]⟩ : ByteArray))) (fun _ hk => hk.2) (.slice Ao21 t116.length co21)) (fun _ h_ => h_.1))) hb); replace HO112 := Aside0.mk (Kd.aT_ (rz (Kd.aB_ (Kd.R_far (p := ⟨gb121, 3, none⟩) (Kd.R_far (p := ⟨gb121, 2, none⟩) (Kd.R_far (p := ⟨gb121, 1, none⟩) (Kd.R_far (p := ⟨gb121, 0, none⟩) (Kd.bs_ HO112.out BK121.out (by decide)) (fun _ hk => hk.2) (.int .i64 (wrap64 ((x3_1.length : Int) + 1)))) (fun _ hk => hk.2) (.int .i64 t107)) (fun _ hk => hk.2) (.string (⟨#[]⟩ : ByteArray))) (fun _ hk => hk.2) (.slice Ao21 t116.length co21)) (fun _ h_ => h_.1))) hb); replace HL115_3 := Aside0.mk (Kd.aT_ (rz (Kd.aB_ (Kd.R_far (p := ⟨gb121, 3, none⟩) (Kd.R_far (p := ⟨gb121, 2, none⟩) (Kd.R_far (p := ⟨gb121, 1, none⟩) (Kd.R_far (p := ⟨gb121, 0, none⟩) (Kd.bs_ HL115_3.out BK121.out (by decide)) (fun _ hk => hk.2) (.int .i64 (wrap64 ((x3_1.length : Int) + 1)))) (fun _ hk => hk.2) (.int .i64 t107)) (fun _ hk => hk.2) (.string (⟨#[]⟩ : ByteArray))) (fun _ hk => hk.2) (.slice Ao21 t116.length co21)) (fun _ h_ => h_.1))) hb); replace HO118 := Aside0.mk (Kd.aT_ (rz (Kd.aB_ (Kd.R_far (p := ⟨gb121, 3, none⟩) (Kd.R_far (p := ⟨gb121, 2, none⟩) (Kd.R_far (p := ⟨gb121, 1, none⟩) (Kd.R_far (p := ⟨gb121, 0, none⟩) (Kd.bs_ HO118.out BK121.out (by decide)) (fun _ hk => hk.2) (.int .i64 (wrap64 ((x3_1.length : Int) + 1)))) (fun _ hk => hk.2) (.int .i64 t107)) (fun _ hk => hk.2) (.string (⟨#[]⟩ : ByteArray))) (fun _ hk => hk.2) (.slice Ao21 t116.length co21)) (fun _ h_ => h_.1))) hb); have HO124 := Aside0.mk (Kd.bt_ ho26 (bw_ (w := w) (g := g) (row := none) (by repeat (first | (with_reducible first | exact HK.out | apply ab_.set_ | apply aj_ | apply ak_ | apply ai_ | refine aC_ ?_ GW121.out _) | exact HK.out)))); replace BK121 := Aside0.mk (bb_ (g := gb121) (o := .cells #[.int .i64 (wrap64 ((x3_1.length : Int) + 1)), .int .i64 t107, .string (⟨#[]⟩ : ByteArray), .slice Ao21 t116.length co21] 78 (0, 0)) (by exact kj4_3 (kj4_2 (kj4_1 (kj4_0 (kz BK121.out))))) hb); replace HK := Aside0.mk (ab_.trans (by repeat (first | (with_reducible first | exact HK.out | apply ab_.set_ | apply aj_ | apply ak_ | apply ai_ | refine aC_ ?_ GW121.out _) | exact HK.out)) (ab_.of_below hb g none) (.inl rfl)); replace HB := Aside0.mk (ac_ (by repeat (first | (with_reducible first | exact HB.out | apply bA_ | apply bN_ | apply bD_ | refine ag_ ?_ (aa_.ge HI0.out) | refine ag_ ?_ GE121.out) | exact HB.out)) hb); replace HI0 := Aside0.mk (aa_.below (show aa_ w0 ((((w22.setCell ⟨gb121, 0, none⟩ (.int .i64 (wrap64 ((x3_1.length : Int) + 1)))).setCell ⟨gb121, 1, none⟩ (.int .i64 t107)).setCell ⟨gb121, 2, none⟩ (.string (⟨#[]⟩ : ByteArray))).setCell ⟨gb121, 3, none⟩ (.slice Ao21 t116.length co21)) g s0_0 t119 t120 from by repeat (first | (with_reducible first | exact HI0.out | apply aa_.alloc | apply aa_.drewN | apply aa_.drew | apply aa_.set_1 | apply aa_.set_2 | refine aa_.far ?_ NB0_121.out _) | exact HI0.out)) hb); clear hb ho26; obtain ⟨Ao27, co27, eo27⟩ := Kd.bn_ HO124.out; subst eo27) | ((with_reducible refine ah_ (f := 89) rfl ?_); refine aN_ (some 41) rfl rfl Try.func89 (by kernel_rfl) rfl #[.pointer (some ⟨g, 0, none⟩), .slice Ao27 y122.length co27] rfl (by first | rfl | (simp only [lma_, lmc_, lmn_]; first | done | rfl)) ?_; (with_reducible refine (bO_.calls g s0_0 t119 t120 _ _ y122 t125 t126 t127 w0 _ ?side1 ?side2 ?side3 ?side4 ?side5 A18.out).mono ?_); (case side1 => repeat (first | (with_reducible first | exact HI0.out | apply aa_.alloc | apply aa_.drewN | apply aa_.drew | apply aa_.set_1 | apply aa_.set_2 | refine aa_.far ?_ NB0_121.out _) | exact HI0.out)); (case side2 => repeat (first | (with_reducible first | exact HB.out | apply bA_ | apply bN_ | apply bD_ | refine ag_ ?_ (aa_.ge HI0.out) | refine ag_ ?_ GE121.out) | exact HB.out)); (case side3 => exact cz (Kd.as_ HO124.out).2.2); (case side4 => exact (Kd.as_ HO124.out).2.1); (case side5 => exact far_slice (aa_.own_ne HI0.out HO124.out (by decide))); rintro e w28 ⟨rfl, hi, hb, hk⟩; refine ⟨_, rfl, ?_⟩; replace HO_3 := Aside0.mk (Kd.cl_ (Kd.S_keep (aa_.apartS (show aa_ w0 _ g s0_0 t119 t120 from by repeat (first | (with_reducible first | exact HI0.out | apply aa_.alloc | apply aa_.drewN | apply aa_.drew | apply aa_.set_1 | apply aa_.set_2 | refine aa_.far ?_ NB0_121.out _) | exact HI0.out)) (sz HO_3.out) (by decide)) hk (fun _ h => h.2)) (fun _ h => h.1)); replace HO112 := Aside0.mk (Kd.aB_ (Kd.cY_ (aa_.apart (show aa_ w0 _ g s0_0 t119 t120 from by repeat (first | (with_reducible first | exact HI0.out | apply aa_.alloc | apply aa_.drewN | apply aa_.drew | apply aa_.set_1 | apply aa_.set_2 | refine aa_.far ?_ NB0_121.out _) | exact HI0.out)) (rz HO112.out) (by decide)) hk (fun _ h => h.2)) (fun _ h => h.1)); replace HL115_3 := Aside0.mk (Kd.aB_ (Kd.cY_ (aa_.apart (show aa_ w0 _ g s0_0 t119 t120 from by repeat (first | (with_reducible first | exact HI0.out | apply aa_.alloc | apply aa_.drewN | apply aa_.drew | apply aa_.set_1 | apply aa_.set_2 | refine aa_.far ?_ NB0_121.out _) | exact HI0.out)) (rz HL115_3.out) (by decide)) hk (fun _ h => h.2)) (fun _ h => h.1)); replace HO118 := Aside0.mk (Kd.aB_ (Kd.cY_ (aa_.apart (show aa_ w0 _ g s0_0 t119 t120 from by repeat (first | (with_reducible first | exact HI0.out | apply aa_.alloc | apply aa_.drewN | apply aa_.drew | apply aa_.set_1 | apply aa_.set_2 | refine aa_.far ?_ NB0_121.out _) | exact HI0.out)) (rz HO118.out) (by decide)) hk (fun _ h => h.2)) (fun _ h => h.1)); replace BK121 := Aside0.mk (ab_.blk hk (g' := gb121) (o := .cells #[.int .i64 (wrap64 ((x3_1.length : Int) + 1)), .int .i64 t107, .string (⟨#[]⟩ : ByteArray), .slice Ao21 t116.length co21] 78 (0, 0)) (kz BK121.out) NB121_0.out (by simp)); replace HO124 := Aside0.mk (Kd.aB_ (Kd.cY_ (aa_.apart (show aa_ w0 _ g s0_0 t119 t120 from by repeat (first | (with_reducible first | exact HI0.out | apply aa_.alloc | apply aa_.drewN | apply aa_.drew | apply aa_.set_1 | apply aa_.set_2 | refine aa_.far ?_ NB0_121.out _) | exact HI0.out)) (rz HO124.out) (by decide)) hk (fun _ h => h.2)) (fun _ h => h.1)); replace HK := Aside0.mk (ab_.trans (by repeat (first | (with_reducible first | exact HK.out | apply ab_.set_ | apply aj_ | apply ak_ | apply ai_ | refine aC_ ?_ GW121.out _) | exact HK.out)) hk (.inl rfl)); replace HB := Aside0.mk (hb); replace HI0 := Aside0.mk (hi); (try clear hb); obtain ⟨hcz29_0, hcz29_1, hcz29_2, hcz29_3⟩ := cz4_ BK121.out; obtain ⟨hfz29_0, hfz29_1, hfz29_2, hfz29_3⟩ := fz4_ BK121.out) | ((with_reducible refine gate_store (t := 9) (p := 42) rfl ?_); refine store_event (t := 9) (p := 42) (v := ?vo_w30) (w1 := (w28.setCell ⟨gb121, 2, none⟩ (.string t125))) ?hg ?ho ?hn ?hr ?_; (case ho => rfl); (case hg => rfl); (case hn => rfl); (case hr => (go_simp; try rfl)); intro w30 hw; replace HO_3 : Aside0 (Kd.S k78 78 w30 w.heap.size (fun k_ => some k_ ≠ (v111 : Value).ownBlock ∧ some k_ ≠ (.slice Ao21 t116.length co21 : Value).ownBlock ∧ k_ ≠ gb121) (.slice (some ad115) x3_1.length co10) x3_1) := ⟨(by rw [hw]; exact (sz (Kd.cl_ (Kd.S_far (p := ⟨gb121, 2, none⟩) (Kd.cl_ HO_3.out (fun k_ hk => (⟨hk, hk.2⟩ : _ ∧ k_ ≠ gb121))) (fun _ hk => hk.2) (.string t125)) (fun _ hk => ⟨hk.1.1.1.2, ⟨hk.1.1.2, hk.1.2⟩⟩))))⟩; replace HO112 : Aside0 (Kd.R k63 63 w30 w.heap.size (fun k_ => some k_ ≠ (.slice Ao21 t116.length co21 : Value).ownBlock) v111 t110) := ⟨(by rw [hw]; exact (rz (Kd.aB_ (Kd.R_far (p := ⟨gb121, 2, none⟩) (Kd.bs_ HO112.out BK121.out (by decide)) (fun _ hk => hk.2) (.string t125)) (fun _ hk => hk.1.2))))⟩; replace HL115_3 : Aside0 (Kd.R k63 63 w30 w.heap.size (fun k_ => some k_ ≠ (.slice (some ad115) x3_1.length co10 : Value).ownBlock ∧ some k_ ≠ (v111 : Value).ownBlock ∧ some k_ ≠ (.slice Ao21 t116.length co21 : Value).ownBlock) (.slice A115_3 ((ar_ x3_1 (ji14)).f3).length c115_3) ((ar_ x3_1 (ji14)).f3)) := ⟨(by rw [hw]; exact (rz (Kd.aB_ (Kd.R_far (p := ⟨gb121, 2, none⟩) (Kd.bs_ HL115_3.out BK121.out (by decide)) (fun _ hk => hk.2) (.string t125)) (fun _ hk => ⟨hk.1.1.2, ⟨hk.1.1.1.2, hk.1.2⟩⟩))))⟩; replace HO118 : Aside0 (Kd.R k63 63 w30 w.heap.size (fun k_ => some k_ ≠ (v111 : Value).ownBlock ∧ some k_ ≠ (.slice A115_3 ((ar_ x3_1 (ji14)).f3).length c115_3 : Value).ownBlock) (.slice Ao21 t116.length co21) t116) := ⟨(by rw [hw]; exact (rz (Kd.aB_ (Kd.R_far (p := ⟨gb121, 2, none⟩) (Kd.bs_ HO118.out BK121.out (by decide)) (fun _ hk => hk.2) (.string t125)) (fun _ hk => ⟨hk.1.1.2, hk.1.2⟩))))⟩; replace HO124 : Aside0 (Kd.R Kd.string 9 w30 w.heap.size (fun _ => True) (.slice Ao27 y122.length co27) y122) := ⟨(by rw [hw]; exact (rz (Kd.aB_ (Kd.R_far (p := ⟨gb121, 2, none⟩) (Kd.bs_ HO124.out BK121.out (by decide)) (fun _ hk => hk.2) (.string t125)) (fun _ hk => trivial))))⟩; replace BK121 : Aside0 (w30.heap[gb121]? = some (.cells #[.int .i64 (wrap64 ((x3_1.length : Int) + 1)), .int .i64 t107, .string t125, .slice Ao21 t116.length co21] 78 (0, 0))) := ⟨(by rw [hw]; exact (by exact kj4_2 (kz BK121.out)))⟩; replace HK : Aside0 (ab_ w w30 g none) := ⟨(by rw [hw]; exact (by repeat (first | (with_reducible first | exact HK.out | apply ab_.set_ | apply aj_ | apply ak_ | apply ai_ | refine aC_ ?_ GW121.out _) | exact HK.out)))⟩; replace HB : Aside0 (Below w0.heap.size w0 w30) := ⟨(by rw [hw]; exact (by repeat (first | (with_reducible first | exact HB.out | apply bA_ | apply bN_ | apply bD_ | refine ag_ ?_ (aa_.ge HI0.out) | refine ag_ ?_ GE121.out) | exact HB.out)))⟩; replace HI0 : Aside0 (aa_ w0 w30 g s0_0 t126 t127) := ⟨(by rw [hw]; exact (by repeat (first | (with_reducible first | exact HI0.out | apply aa_.alloc | apply aa_.drewN | apply aa_.drew | apply aa_.set_1 | apply aa_.set_2 | refine aa_.far ?_ NB0_121.out _) | exact HI0.out)))⟩; clear hw; obtain ⟨hcz31_0, hcz31_1, hcz31_2, hcz31_3⟩ := cz4_ BK121.out; obtain ⟨hfz31_0, hfz31_1, hfz31_2, hfz31_3⟩ := fz4_ BK121.out) | ((with_reducible refine be_ (b := .append) (xs := #[.tmp 43, .tmp 45]) rfl ?_); at_builtin; refine Kd.S_append k78 w.heap.size rfl (.tmp 43) (.tmp 45) 38 78 (.agg #[(.int .i64 0), (.int .i64 0), (.string ⟨#[]⟩), (.slice none 0 0)]) 56 rfl Try.underlying38 info78 rfl (by decide) (by omega) (.slice (some ad115) x3_1.length co10) x3_1 (⟨wrap64 ((x3_1.length : Int) + 1), t107, t125, t116⟩ : S78) [.int .i64 (wrap64 ((x3_1.length : Int) + 1)), .int .i64 t107, .string t125, .slice Ao21 t116.length co21] (fun k_ => some k_ ≠ (v111 : Value).ownBlock ∧ k_ ≠ gb121) (fun k_ => some k_ = (.slice Ao21 t116.length co21 : Value).ownBlock) rfl rfl ?aP (fun k_ hk_ => ((Kd.aB_ (ok' := fun k_ => ((fun k_ => some k_ ≠ (v111 : Value).ownBlock ∧ k_ ≠ gb121)) k_ ∧ some k_ ≠ (.slice (some ad115) x3_1.length co10 : Value).ownBlock) (Kd.bs_ (Kd.cn_ (HO118.out) (Kd.S_typed HO_3.out) (by decide)) BK121.out (by decide)) (fun k_ hk => ⟨⟨hk.1.1.1, hk.2⟩, hk.1.2⟩))).1 k_ hk_.symm) ?aF ?aO (Below.refl _ _) ?aS ?aL ?_; (case aP => exact k78_mkM _ _ _ (⟨wrap64 ((x3_1.length : Int) + 1), t107, t125, t116⟩ : S78) (Kd.aB_ (Kd.cD_ rfl (Kd.aB_ (ok' := fun k_ => ((fun k_ => some k_ ≠ (v111 : Value).ownBlock ∧ k_ ≠ gb121)) k_ ∧ some k_ ≠ (.slice (some ad115) x3_1.length co10 : Value).ownBlock) (Kd.bs_ (Kd.cn_ (HO118.out) (Kd.S_typed HO_3.out) (by decide)) BK121.out (by decide)) (fun k_ hk => ⟨⟨hk.1.1.1, hk.2⟩, hk.1.2⟩))) (fun _ h_ => h_))); (case aF => exact (fun k_ hk => ⟨Kd.fresh' (Kd.R_lt (rz HO112.out)) k_ hk, Kd.cV_ (g := gb121) (o := .cells #[.int .i64 (wrap64 ((x3_1.length : Int) + 1)), .int .i64 t107, .string t125, .slice Ao21 t116.length co21] 78 (0, 0)) (kz BK121.out) k_ hk⟩)); (case aO => exact (sz (Kd.cl_ HO_3.out (fun k_ hk => ⟨⟨hk.1, hk.2.2⟩, fun e_ => hk.2.1 e_⟩)))); (case aS => exact (bw_ (w := w) (g := g) (row := none) (by repeat (first | (with_reducible first | exact HK.out | apply ab_.set_ | apply aj_ | apply ak_ | apply ai_ | refine aC_ ?_ GW121.out _) | exact HK.out)))); (case aL => have := LMc19.out; omega); intro v129 w32 ho hb hg hat; rw [← Ny128.out] at ho; replace HO112 := Aside0.mk (Kd.R_over' (rz HO112.out) (Kd.S_typed (sz HO_3.out)) (by decide) hg); replace HL115_3 := Aside0.mk (Kd.dn_ (ok := (fun k_ => some k_ ≠ (v111 : Value).ownBlock ∧ some k_ ≠ (.slice Ao21 t116.length co21 : Value).ownBlock)) (rz (Kd.aB_ HL115_3.out (fun _ hk => ⟨⟨hk.2.1, hk.2.2⟩, hk.1⟩))) hg hat); replace BK121 := Aside0.mk (bS_ (g := gb121) (o := .cells #[.int .i64 (wrap64 ((x3_1.length : Int) + 1)), .int .i64 t107, .string t125, .slice Ao21 t116.length co21] 78 (0, 0)) (kz BK121.out) hg (Kd.S_away HO_3.out (fun _ hk => hk.2.2))); replace HO124 := Aside0.mk (Kd.R_over' (rz HO124.out) (Kd.S_typed (sz HO_3.out)) (by decide) hg); replace HB := Aside0.mk (dh_ (by repeat (first | (with_reducible first | exact HB.out | apply bA_ | apply bN_ | apply bD_ | refine ag_ ?_ (aa_.ge HI0.out) | refine ag_ ?_ GE121.out) | exact HB.out)) HL.out hb); replace HI0 := Aside0.mk (aa_.grown (by repeat (first | (with_reducible first | exact HI0.out | apply aa_.alloc | apply aa_.drewN | apply aa_.drew | apply aa_.set_1 | apply aa_.set_2 | refine aa_.far ?_ NB0_121.out _) | exact HI0.out)) hg (aa_.own_neS HI0.out HO_3.out (by decide))); replace HK := Aside0.mk (ab_.trans (by repeat (first | (with_reducible first | exact HK.out | apply ab_.set_ | apply aj_ | apply ak_ | apply ai_ | refine aC_ ?_ GW121.out _) | exact HK.out)) (ab_.of_grown hg g) (Kd.S_base2 HO_3.out)); have HO130 := Aside0.mk (ho); clear HO_3; clear HO118; clear ho hb hg hat))
   go_roundg k1
   case measure => have := HK1.out; omega
   case rel => exact ⟨(y128), (wrap64 (x4_1 - 1)), (t126), (t127), (by first | rfl | (simp; done) | (simp [*]; done)), H', ⟨by have := HK1.out; omega⟩, ⟨sz (Kd.cl_ HO130.out (fun _ hk => trivial))⟩, ⟨by repeat (first | (with_reducible first | exact HI0.out | apply aa_.alloc | apply aa_.drewN | apply aa_.drew | apply aa_.set_1 | apply aa_.set_2 | refine aa_.far ?_ NB0_121.out _) | exact HI0.out)⟩, ⟨by repeat (first | (with_reducible first | exact HK.out | apply ab_.set_ | apply aj_ | apply ak_ | apply ai_ | refine aC_ ?_ GW121.out _) | exact HK.out)⟩, ⟨by repeat (first | (with_reducible first | exact HB.out | apply bA_ | apply bN_ | apply bD_ | refine ag_ ?_ (aa_.ge HI0.out) | refine ag_ ?_ GE121.out) | exact HB.out)⟩⟩
def cK_.f (k : Nat) (l0 : List Int) : Option ((List (S78))) := (cA_.f l0).bind fun bt101 => ((bC_.f k bt101.1 bt101.2.1 bt101.2.2).bind fun bt105 => (some bt105.1))
set_option maxHeartbeats 8000000 in
set_option maxRecDepth 100000 in
theorem cK_.calls (k : Nat) (A0 : Option Addr) (c0 : Nat) (l0 : List Int) (r : List (S78)) (w : World) (hr0 : Kd.C (Kd.int .u8) w A0 l0.length l0) (hc0 : l0.length ≤ c0) (h : cK_.f k l0 = some r) :
  Calls Try.prog 31 #[.slice A0 l0.length c0] w fun e w' => ∃ v0_ : Value, e = .returned (v0_) ∧ Kd.S k78 78 w' w.heap.size (fun _ => True) v0_ r ∧ Below w.heap.size w w' := by
 have HR0 := Aside0.mk hr0
 have HC0 := Aside0.mk hc0
 clear hr0 hc0
 have HB := Aside0.mk (Below.refl w.heap.size w)
 have H : ((cA_.f l0).bind fun bt101 => ((bC_.f k bt101.1 bt101.2.1 bt101.2.2).bind fun bt105 => (some bt105.1))) = some r := h
 clear h
 replace H := Option.bind_eq_some_iff.mp H
 obtain ⟨⟨t101, t102, t103⟩, A20, H⟩ := H
 (try dsimp only at H)
 have A2 := Aside0.mk A20
 clear A20
 replace H := Option.bind_eq_some_iff.mp H
 obtain ⟨⟨t105, t108, t109⟩, A30, H⟩ := H
 (try dsimp only at H)
 have A3 := Aside0.mk A30
 clear A30
 obtain rfl := Option.some.inj H
 go_enter Try.func31, Try.ntmps31
 go_wp2_with (first | ((with_reducible refine ah_ (f := 59) rfl ?_); refine aN_ (some 5) rfl rfl Try.func59 (by kernel_rfl) rfl #[.slice A0 l0.length c0] rfl (by first | rfl | (simp only [lma_, lmc_, lmn_]; first | done | rfl)) ?_; (with_reducible refine (cA_.calls _ _ l0 t101 t102 t103 w _ ?side1 ?side2 ?side3 A2.out).mono ?_); (case side1 => exact bz HB.out); (case side2 => exact HR0.out); (case side3 => exact HC0.out); rintro e w4 ⟨g104, rfl, hi, hb, hb2⟩; refine ⟨_, rfl, ?_⟩; replace HB := Aside0.mk (hb); have HI104 := Aside0.mk (hi); (try clear hb)) | ((with_reducible refine ah_ (f := 63) rfl ?_); refine aN_ (some 7) rfl rfl Try.func63 (by kernel_rfl) rfl #[.pointer (some ⟨g104, 0, none⟩)] rfl (by first | rfl | (simp only [lma_, lmc_, lmn_]; first | done | rfl)) ?_; (with_reducible refine (bC_.calls k g104 t101 t102 t103 t105 t108 t109 w _ ?side1 ?side2 A3.out).mono ?_); (case side1 => repeat (first | (with_reducible first | exact HI104.out | apply aa_.alloc | apply aa_.drewN | apply aa_.drew | apply aa_.set_1 | apply aa_.set_2) | exact HI104.out)); (case side2 => repeat (first | (with_reducible first | exact HB.out | apply bA_ | apply bN_ | apply bD_ | refine ag_ ?_ (aa_.ge HI104.out)) | exact HB.out)); rintro e w5 ⟨v106, rfl, ho0, hi, hb, hk⟩; refine ⟨_, rfl, ?_⟩; have HO107 := Aside0.mk (Kd.S_lower ho0 (ae_ (by repeat (first | (with_reducible first | exact HB.out | apply bA_ | apply bN_ | apply bD_ | refine ag_ ?_ (aa_.ge HI104.out)) | exact HB.out)))); replace HB := Aside0.mk (hb); replace HI104 := Aside0.mk (hi); (try clear hb); (try clear ho0)))
 go_ret
 exact ⟨_, by first | rfl | (simp [*, ao_, an_] <;> rfl), sz HO107.out, by repeat (first | (with_reducible first | exact HB.out | apply bA_ | apply bN_ | apply bD_ | refine ag_ ?_ (aa_.ge HI104.out)) | exact HB.out)⟩
def cq_.f (l0 : List Int) (a1 : Int) (a2 : Int) : Option (Int) := if a2 ≤ 1 then (some 0) else (if a1 ≥ (l0.length : Int) then (some 0) else (if 0 ≤ a1 then (if a1 < (l0.length : Int) then (if a2 = 0 then (none) else (some (Int.tmod (wrap64 (rd l0 a1)) a2))) else (none)) else (none)))
set_option maxHeartbeats 8000000 in
set_option maxRecDepth 100000 in
theorem cq_.calls (A0 : Option Addr) (c0 : Nat) (l0 : List Int) (a1 : Int) (a2 : Int) (r : Int) (w : World) (hr0 : Kd.C (Kd.int .u8) w A0 l0.length l0) (hc0 : l0.length ≤ c0) (h : cq_.f l0 a1 a2 = some r) :
  Calls Try.prog 32 #[.slice A0 l0.length c0, .int .i64 a1, .int .i64 a2] w fun e w' => e = .returned (.int .i64 r) ∧ aq_ w w' := by
 have HR0 := Aside0.mk hr0
 have HC0 := Aside0.mk hc0
 clear hr0 hc0
 have H : (if a2 ≤ 1 then (some 0) else (if a1 ≥ (l0.length : Int) then (some 0) else (if 0 ≤ a1 then (if a1 < (l0.length : Int) then (if a2 = 0 then (none) else (some (Int.tmod (wrap64 (rd l0 a1)) a2))) else (none)) else (none)))) = some r := h
 clear h
 by_cases c4 : a2 ≤ 1
 rotate_left
 ·rw [if_neg c4] at H
  have c4b0 : decide (a2 ≤ 1) = false := decide_eq_false c4
  clear c4
  by_cases c5 : a1 ≥ (l0.length : Int)
  rotate_left
  ·rw [if_neg c5] at H
   have c5b0 : decide ((l0.length : Int) ≤ a1) = false := decide_eq_false c5
   clear c5
   by_cases c6 : 0 ≤ a1
   rotate_left
   ·rw [if_neg c6] at H
    exact absurd H (by simp)
   rw [if_pos c6] at H
   have c6b0 : decide (0 ≤ a1) = true := decide_eq_true c6
   clear c6
   by_cases c7 : a1 < (l0.length : Int)
   rotate_left
   ·rw [if_neg c7] at H
    exact absurd H (by simp)
   rw [if_pos c7] at H
   have c7b0 : decide (a1 < (l0.length : Int)) = true := decide_eq_true c7
   clear c7
   by_cases c8 : a2 = 0
   rotate_left
   ·rw [if_neg c8] at H
    have c8b0 : (a2 == 0) = false := beq_eq_false_iff_ne.mpr c8
    have c8b1 : (a2 != 0) = true := bne_iff_ne.mpr c8
    obtain rfl := Option.some.inj H
    have p101 : 0 ≤ (a1 : Int) := of_decide_eq_true (by assumption)
    have q101 : a1 < (l0.length : Int) := of_decide_eq_true (by assumption)
    obtain ⟨ad101, e101, hx101_0⟩ := Kd.at_int HR0.out a1 p101 q101
    cases e101
    replace p101 := eq_true p101
    replace q101 := eq_true q101
    go_enter Try.func32, Try.ntmps32
    go_wp2
    go_ret
    exact ⟨by first | rfl | (simp; done) | (simp [*]; done), by repeat (first | exact aq_.refl _ | apply aq_.step)⟩
   rw [if_pos c8] at H
   exact absurd H (by simp)
  rw [if_pos c5] at H
  have c5b0 : decide ((l0.length : Int) ≤ a1) = true := decide_eq_true c5
  clear c5
  obtain rfl := Option.some.inj H
  go_enter Try.func32, Try.ntmps32
  go_wp2
  go_ret
  exact ⟨by first | rfl | (simp; done) | (simp [*]; done), by repeat (first | exact aq_.refl _ | apply aq_.step)⟩
 rw [if_pos c4] at H
 have c4b0 : decide (a2 ≤ 1) = true := decide_eq_true c4
 clear c4
 obtain rfl := Option.some.inj H
 go_enter Try.func32, Try.ntmps32
 go_wp2
 go_ret
 exact ⟨by first | rfl | (simp; done) | (simp [*]; done), by repeat (first | exact aq_.refl _ | apply aq_.step)⟩
def bf_.f (k : Nat) (l0 : List (S78)) (a1 : Int) (a2 : Int) : Option (Int × Int) := (aG_.f k l0 (([a1, a2] : List Int))).bind fun t104 => (if t104 = 0 then ((aF_.f k l0 a1 a2).bind fun t105 => (some (t105, 0))) else (some (0, t104)))
set_option maxHeartbeats 8000000 in
set_option maxRecDepth 100000 in
theorem bf_.calls (k : Nat) (A0 : Option Addr) (c0 : Nat) (l0 : List (S78)) (a1 : Int) (a2 : Int) (r1 : Int) (r2 : Int) (w : World) (hr0 : Kd.C k78 w A0 l0.length l0) (hc0 : l0.length ≤ c0) (h : bf_.f k l0 a1 a2 = some (r1, r2)) :
  Calls Try.prog 33 #[.slice A0 l0.length c0, .int .i64 a1, .int .i64 a2] w fun e w' => e = .returned (.tuple #[.int .i64 r1, .int .i64 r2]) ∧ Below w.heap.size w w' := by
 have HR0 := Aside0.mk hr0
 have HC0 := Aside0.mk hc0
 clear hr0 hc0
 have HB := Aside0.mk (Below.refl w.heap.size w)
 have H : ((aG_.f k l0 (([a1, a2] : List Int))).bind fun t104 => (if t104 = 0 then ((aF_.f k l0 a1 a2).bind fun t105 => (some (t105, 0))) else (some (0, t104)))) = some (r1, r2) := h
 clear h
 obtain ⟨y101, hy101⟩ : ∃ y_ : List Int, y_ = (([a1, a2] : List Int)) := ⟨_, rfl⟩
 replace H : ((aG_.f k l0 y101).bind fun t104 => (if t104 = 0 then ((aF_.f k l0 a1 a2).bind fun t105 => (some (t105, 0))) else (some (0, t104)))) = some (r1, r2) := by first | (rw [hy101]; with_reducible exact H) | (have H2_ := (Option.bind_some _ _).symm.trans H; rw [hy101]; with_reducible exact H2_) | (have H2_ := (Option.bind_some _ _).symm.trans H; with_reducible exact H2_) | with_reducible exact H | (rw [hy101]; exact H) | exact H
 have Ny101 := Aside0.mk hy101
 clear hy101
 replace H := Option.bind_eq_some_iff.mp H
 obtain ⟨t104, A40, H⟩ := H
 (try dsimp only at H)
 have A4 := Aside0.mk A40
 clear A40
 have HC5 := Aside0.mk H
 clear H
 go_enter Try.func33, Try.ntmps33
 go_upto_if 15 with (first | ((with_reducible refine aH_ (N := 12) rfl ?_); refine Kd.R_lit (Kd.int .i64) _ 2 ?hg (N := 12) ?hd (xs := ([a1, a2] : List Int)) (inner := [.int .i64 a1, .int .i64 a2]) (ok := fun _ => True) (okp := fun _ => True) ?hr ?hp (fun _ hk => hk) trivial (Below.refl _ _) (Nat.le_refl _) (by simp) ?_; (case hd => rfl); (case hg => rfl); (case hr => (go_simp; try rfl)); (case hp => exact (Reps.one (show Kd.M (Kd.int .i64) _ _ _ a1 [.int .i64 a1] from rfl) (Reps.one (show Kd.M (Kd.int .i64) _ _ _ a2 [.int .i64 a2] from rfl) (Reps.none _ _)))); intro v102 w6 ho7 hb hg_ hnew_; clear hg_ hnew_; (first | rw [← Ny101.out] at ho7 | (simp only [Int.reduceToNat] at ho7; rw [← Ny101.out] at ho7)); have HO103 := Aside0.mk (Kd.bt_ ho7 (ae_ (bz HB.out))); replace HB := Aside0.mk (ac_ (bz HB.out) hb); clear hb ho7; obtain ⟨Ao8, co8, eo8⟩ := Kd.bn_ HO103.out; subst eo8) | ((with_reducible refine ah_ (f := 53) rfl ?_); refine aN_ (some 13) rfl rfl Try.func53 (by kernel_rfl) rfl #[.slice A0 l0.length c0, .slice Ao8 y101.length co8] rfl (by first | rfl | (simp only [lma_, lmc_, lmn_]; first | done | rfl)) ?_; (with_reducible refine (aG_.calls k _ _ l0 _ _ y101 t104 _ ?side1 ?side2 ?side3 ?side4 A4.out).mono ?_); (case side1 => exact cz (Kd.bM_ HR0.out HB.out)); (case side2 => exact HC0.out); (case side3 => exact cz (Kd.as_ HO103.out).2.2); (case side4 => exact (Kd.as_ HO103.out).2.1); rintro e w9 ⟨rfl, hb⟩; refine ⟨_, rfl, ?_⟩; replace HO103 := Aside0.mk (Kd.aT_ (rz HO103.out) hb); replace HB := Aside0.mk (ac_ (bz HB.out) hb); (try clear hb)))
 (try simp only [Act.put, lsa_, ls0_, ls1_])
 have H := HC5.out
 clear HC5
 by_cases c10 : t104 = 0
 rotate_left
 ·rw [if_neg c10] at H
  have c10b0 : (t104 == 0) = false := beq_eq_false_iff_ne.mpr c10
  have c10b1 : (t104 != 0) = true := bne_iff_ne.mpr c10
  (first | rw [c10b0] | (simp only [i64_w, i32_w]; rw [c10b0]) | (simp only [c10b1, Bool.not_true, Bool.not_false]) | (simp only [c10b0, Bool.not_true, Bool.not_false]) | skip)
  simp only [Option.some.injEq, Prod.mk.injEq] at H
  obtain ⟨rfl, rfl⟩ := H
  go_wp2
  go_ret2
  exact ⟨by first | rfl | (simp [*, ao_, an_] <;> rfl), bz HB.out⟩
 rw [if_pos c10] at H
 have c10b0 : (t104 == 0) = true := beq_iff_eq.mpr c10
 have c10b1 : (t104 != 0) = false := bne_eq_false_iff_eq.mpr c10
 clear c10
 (first | rw [c10b0] | (simp only [i64_w, i32_w]; rw [c10b0]) | (simp only [c10b1, Bool.not_true, Bool.not_false]) | (simp only [c10b0, Bool.not_true, Bool.not_false]) | skip)
 replace H := Option.bind_eq_some_iff.mp H
 obtain ⟨t105, A110, H⟩ := H
 (try dsimp only at H)
 have A11 := Aside0.mk A110
 clear A110
 simp only [Option.some.injEq, Prod.mk.injEq] at H
 obtain ⟨rfl, rfl⟩ := H
 go_wp2_with (first | ((with_reducible refine ah_ (f := 56) rfl ?_); refine aN_ (some 20) rfl rfl Try.func56 (by kernel_rfl) rfl #[.slice A0 l0.length c0, .int .i64 a1, .int .i64 a2] rfl (by first | rfl | (simp only [lma_, lmc_, lmn_]; first | done | rfl)) ?_; (with_reducible refine (aF_.calls k _ _ l0 a1 a2 t105 _ ?side1 ?side2 A11.out).mono ?_); (case side1 => exact cz (Kd.bM_ HR0.out HB.out)); (case side2 => exact HC0.out); rintro e w12 ⟨rfl, hb⟩; refine ⟨_, rfl, ?_⟩; replace HO103 := Aside0.mk (Kd.aT_ (rz HO103.out) hb); replace HB := Aside0.mk (ac_ (bz HB.out) hb); (try clear hb)))
 go_ret2
 exact ⟨by first | rfl | (simp [*, ao_, an_] <;> rfl), bz HB.out⟩
def bp_.l0 : Nat → ByteArray → Int → Option (Bool)
 | 0, _, _ => none
 | k + 1, x0, x3 => if x3 < (x0.size : Int) then (if 0 ≤ x3 then (if (bt x0 x3) < 32 then (some false) else (if (bt x0 x3) > 126 then (some false) else (bp_.l0 k x0 (wrap64 (x3 + 1))))) else (none)) else (some (decide ((x0.size : Int) ≤ 20)))
def bp_.f (k : Nat) (a0 : ByteArray) : Option (Bool) := bp_.l0 k a0 0
set_option maxHeartbeats 8000000 in
set_option maxRecDepth 100000 in
theorem bp_.calls (k : Nat) (a0 : ByteArray) (r : Bool) (w : World) (h : bp_.f k a0 = some r) :
  Calls Try.prog 47 #[.string a0] w fun e w' => e = .returned (.bool r) ∧ aq_ w w' := by
 have H : (bp_.l0 k a0 0) = some r := h
 clear h
 have H' := Aside0.mk H
 clear H
 go_enter Try.func47, Try.ntmps47
 go_wp2
 (try simp only [Act.put, lsa_, ls0_, ls1_])
 go_loopg [3] k (fun kq v3 w' => ∃ (x3_1 : Int), v3 = .int .i64 x3_1 ∧ Aside0 (bp_.l0 kq a0 x3_1 = some r) ∧ Aside0 (kq ≤ k) ∧ aq_ w w')
 case atStart => exact ⟨(0), (by first | rfl | (simp; done) | (simp [*]; done)), H', ⟨Nat.le_refl _⟩, by repeat (first | exact aq_.refl _ | apply aq_.step)⟩
 case round =>
  clear H'
  obtain ⟨x3_1, rfl, HA, HK1, ⟨m1, rfl⟩⟩ := hrel
  cases gk with
  | zero => exact absurd HA.out (by simp [bp_.l0])
  | succ k1 =>
   have H := HA.out
   clear HA
   simp only [bp_.l0] at H
   by_cases c2 : x3_1 < (a0.size : Int)
   rotate_left
   ·rw [if_neg c2] at H
    have c2b0 : decide (x3_1 < (a0.size : Int)) = false := decide_eq_false c2
    clear c2
    obtain rfl := Option.some.inj H
    go_wp2
    go_ret
    exact ⟨by first | rfl | (simp; done) | (simp [*]; done), by repeat (first | exact aq_.refl _ | apply aq_.step)⟩
   rw [if_pos c2] at H
   have c2b0 : decide (x3_1 < (a0.size : Int)) = true := decide_eq_true c2
   clear c2
   by_cases c3 : 0 ≤ x3_1
   rotate_left
   ·rw [if_neg c3] at H
    exact absurd H (by simp)
   rw [if_pos c3] at H
   have c3b0 : decide (0 ≤ x3_1) = true := decide_eq_true c3
   clear c3
   by_cases c5 : (bt a0 x3_1) < 32
   rotate_left
   ·rw [if_neg c5] at H
    have c5b0 : decide ((bt a0 x3_1) < 32) = false := decide_eq_false c5
    clear c5
    by_cases c7 : (bt a0 x3_1) > 126
    rotate_left
    ·rw [if_neg c7] at H
     have c7b0 : decide (126 < (bt a0 x3_1)) = false := decide_eq_false c7
     clear c7
     have H' := Aside0.mk H
     clear H
     have p4 : 0 ≤ (x3_1 : Int) := of_decide_eq_true (by assumption)
     have q4 : x3_1 < (a0.size : Int) := of_decide_eq_true (by assumption)
     have hx4 := bt_at a0 x3_1
     replace p4 := eq_true p4
     replace q4 := eq_true q4
     have p6 : 0 ≤ (x3_1 : Int) := of_decide_eq_true (by assumption)
     have q6 : x3_1 < (a0.size : Int) := of_decide_eq_true (by assumption)
     have hx6 := bt_at a0 x3_1
     replace p6 := eq_true p6
     replace q6 := eq_true q6
     go_wp2
     go_roundg k1
     case measure => have := HK1.out; omega
     case rel => exact ⟨(wrap64 (x3_1 + 1)), (by first | rfl | (simp; done) | (simp [*]; done)), H', ⟨by have := HK1.out; omega⟩, by repeat (first | exact aq_.refl _ | apply aq_.step)⟩
    rw [if_pos c7] at H
    have c7b0 : decide (126 < (bt a0 x3_1)) = true := decide_eq_true c7
    clear c7
    obtain rfl := Option.some.inj H
    have p4 : 0 ≤ (x3_1 : Int) := of_decide_eq_true (by assumption)
    have q4 : x3_1 < (a0.size : Int) := of_decide_eq_true (by assumption)
    have hx4 := bt_at a0 x3_1
    replace p4 := eq_true p4
    replace q4 := eq_true q4
    have p6 : 0 ≤ (x3_1 : Int) := of_decide_eq_true (by assumption)
    have q6 : x3_1 < (a0.size : Int) := of_decide_eq_true (by assumption)
    have hx6 := bt_at a0 x3_1
    replace p6 := eq_true p6
    replace q6 := eq_true q6
    go_wp2
    go_ret
    exact ⟨by first | rfl | (simp; done) | (simp [*]; done), by repeat (first | exact aq_.refl _ | apply aq_.step)⟩
   rw [if_pos c5] at H
   have c5b0 : decide ((bt a0 x3_1) < 32) = true := decide_eq_true c5
   clear c5
   obtain rfl := Option.some.inj H
   have p4 : 0 ≤ (x3_1 : Int) := of_decide_eq_true (by assumption)
   have q4 : x3_1 < (a0.size : Int) := of_decide_eq_true (by assumption)
   have hx4 := bt_at a0 x3_1
   replace p4 := eq_true p4
   replace q4 := eq_true q4
   go_wp2
   go_ret
   exact ⟨by first | rfl | (simp; done) | (simp [*]; done), by repeat (first | exact aq_.refl _ | apply aq_.step)⟩
def bG_.l0 : Nat → List (S78) → Int → Option (Bool)
 | 0, _, _ => none
 | k + 1, x0, x3 => if x3 < (x0.length : Int) then (if 0 ≤ x3 then (if ((ar_ x0 x3).f0) = (wrap64 (x3 + 1)) then ((bX_.f ((ar_ x0 x3).f1) 0 x3).bind fun t103 => (if t103 = true then ((bp_.f k ((ar_ x0 x3).f2)).bind fun t104 => (if t104 = true then ((au_.f k ((ar_ x0 x3).f3)).bind fun t105 => (if t105 = true then (bG_.l0 k x0 (wrap64 (x3 + 1))) else (some false))) else (some false))) else (some false))) else (some false)) else (none)) else (some (decide ((x0.length : Int) ≤ 16)))
def bG_.f (k : Nat) (l0 : List (S78)) : Option (Bool) := bG_.l0 k l0 0
set_option maxHeartbeats 8000000 in
set_option maxRecDepth 100000 in
theorem bG_.calls (k : Nat) (A0 : Option Addr) (c0 : Nat) (l0 : List (S78)) (r : Bool) (w : World) (hr0 : Kd.C k78 w A0 l0.length l0) (hc0 : l0.length ≤ c0) (h : bG_.f k l0 = some r) :
  Calls Try.prog 46 #[.slice A0 l0.length c0] w fun e w' => e = .returned (.bool r) ∧ Below w.heap.size w w' := by
 have hu78 := Try.underlying78
 have HR0 := Aside0.mk hr0
 have HC0 := Aside0.mk hc0
 clear hr0 hc0
 have HB := Aside0.mk (Below.refl w.heap.size w)
 have H : (bG_.l0 k l0 0) = some r := h
 clear h
 have H' := Aside0.mk H
 clear H
 go_enter Try.func46, Try.ntmps46
 go_wp2
 (try simp only [Act.put, lsa_, ls0_, ls1_])
 go_loopg [3] k (fun kq v3 w' => ∃ (x3_1 : Int), v3 = .int .i64 x3_1 ∧ Aside0 (bG_.l0 kq l0 x3_1 = some r) ∧ Aside0 (kq ≤ k) ∧ Aside0 (Below w.heap.size w w'))
 case atStart => exact ⟨(0), (by first | rfl | (simp; done) | (simp [*]; done)), H', ⟨Nat.le_refl _⟩, ⟨bz HB.out⟩⟩
 case round =>
  clear H'
  obtain ⟨x3_1, rfl, HA, HK1, HB⟩ := hrel
  cases gk with
  | zero => exact absurd HA.out (by simp [bG_.l0])
  | succ k1 =>
   have H := HA.out
   clear HA
   simp only [bG_.l0] at H
   by_cases c2 : x3_1 < (l0.length : Int)
   rotate_left
   ·rw [if_neg c2] at H
    have c2b0 : decide (x3_1 < (l0.length : Int)) = false := decide_eq_false c2
    clear c2
    obtain rfl := Option.some.inj H
    go_wp2
    go_ret
    exact ⟨by first | rfl | (simp [*, ao_, an_] <;> rfl), bz HB.out⟩
   rw [if_pos c2] at H
   have c2b0 : decide (x3_1 < (l0.length : Int)) = true := decide_eq_true c2
   clear c2
   by_cases c3 : 0 ≤ x3_1
   rotate_left
   ·rw [if_neg c3] at H
    exact absurd H (by simp)
   rw [if_pos c3] at H
   have c3b0 : decide (0 ≤ x3_1) = true := decide_eq_true c3
   clear c3
   by_cases c4 : ((ar_ l0 x3_1).f0) = (wrap64 (x3_1 + 1))
   rotate_left
   ·rw [if_neg c4] at H
    have c4b0 : (((ar_ l0 x3_1).f0) == (wrap64 (x3_1 + 1))) = false := beq_eq_false_iff_ne.mpr c4
    have c4b1 : (((ar_ l0 x3_1).f0) != (wrap64 (x3_1 + 1))) = true := bne_iff_ne.mpr c4
    obtain rfl := Option.some.inj H
    have p101 : 0 ≤ (x3_1 : Int) := of_decide_eq_true (by assumption)
    have q101 : x3_1 < (l0.length : Int) := of_decide_eq_true (by assumption)
    obtain ⟨ad101, A101_3, c101_3, e101, hx101_0, hx101_1, hx101_2, hx101_3, hl101_3, hi101_3⟩ := dp_ HR0.out x3_1 p101 q101
    cases e101
    replace hx101_0 := bu_ HB.out hx101_0
    replace hx101_1 := bu_ HB.out hx101_1
    replace hx101_2 := bu_ HB.out hx101_2
    replace hx101_3 := bu_ HB.out hx101_3
    have HR101_3 := Aside0.mk hi101_3
    have HC101_3 := Aside0.mk hl101_3
    clear hi101_3 hl101_3
    replace p101 := eq_true p101
    replace q101 := eq_true q101
    go_wp2_with (first | ((with_reducible refine aH_ (N := 4) rfl ?_); refine by_ ?hg (N := 4) ?hd (cs := #[.int .i64 0, .int .i64 0, .string (⟨#[]⟩ : ByteArray), .slice none 0 0]) (t := 78) ?hr ?_; (case hd => rfl); (case hg => rfl); (case hr => (go_simp; try rfl)); intro gb102 hg w19 hbox hb; have BK102 := Aside0.mk (hbox); have GW102 := Aside0.mk ((by rw [hg]; exact (ae_ (bz HB.out)) : w.heap.size ≤ gb102)); have GE102 := GW102; replace HB := Aside0.mk (ac_ (bz HB.out) hb); clear hb hbox hg; obtain ⟨hcz20_0, hcz20_1, hcz20_2, hcz20_3⟩ := cz4_ BK102.out; obtain ⟨hfz20_0, hfz20_1, hfz20_2, hfz20_3⟩ := fz4_ BK102.out))
    go_ret
    exact ⟨by first | rfl | (simp [*, ao_, an_] <;> rfl), bq⟩
   rw [if_pos c4] at H
   have c4b0 : (((ar_ l0 x3_1).f0) == (wrap64 (x3_1 + 1))) = true := beq_iff_eq.mpr c4
   have c4b1 : (((ar_ l0 x3_1).f0) != (wrap64 (x3_1 + 1))) = false := bne_eq_false_iff_eq.mpr c4
   clear c4
   replace H := Option.bind_eq_some_iff.mp H
   obtain ⟨t103, A50, H⟩ := H
   (try dsimp only at H)
   have A5 := Aside0.mk A50
   clear A50
   by_cases c6 : t103 = true
   rotate_left
   ·replace c6 := Bool.eq_false_iff.mpr c6
    subst c6
    have H1 : (some false) = some r := by rw [if_neg (show ¬ (false = true) by decide)] at H; exact H
    clear H
    have H := H1
    clear H1
    obtain rfl := Option.some.inj H
    have p101 : 0 ≤ (x3_1 : Int) := of_decide_eq_true (by assumption)
    have q101 : x3_1 < (l0.length : Int) := of_decide_eq_true (by assumption)
    obtain ⟨ad101, A101_3, c101_3, e101, hx101_0, hx101_1, hx101_2, hx101_3, hl101_3, hi101_3⟩ := dp_ HR0.out x3_1 p101 q101
    cases e101
    replace hx101_0 := bu_ HB.out hx101_0
    replace hx101_1 := bu_ HB.out hx101_1
    replace hx101_2 := bu_ HB.out hx101_2
    replace hx101_3 := bu_ HB.out hx101_3
    have HR101_3 := Aside0.mk hi101_3
    have HC101_3 := Aside0.mk hl101_3
    clear hi101_3 hl101_3
    replace p101 := eq_true p101
    replace q101 := eq_true q101
    go_wp2_with (first | ((with_reducible refine aH_ (N := 4) rfl ?_); refine by_ ?hg (N := 4) ?hd (cs := #[.int .i64 0, .int .i64 0, .string (⟨#[]⟩ : ByteArray), .slice none 0 0]) (t := 78) ?hr ?_; (case hd => rfl); (case hg => rfl); (case hr => (go_simp; try rfl)); intro gb102 hg w17 hbox hb; have BK102 := Aside0.mk (hbox); have GW102 := Aside0.mk ((by rw [hg]; exact (ae_ (bz HB.out)) : w.heap.size ≤ gb102)); have GE102 := GW102; replace HB := Aside0.mk (ac_ (bz HB.out) hb); clear hb hbox hg; obtain ⟨hcz18_0, hcz18_1, hcz18_2, hcz18_3⟩ := cz4_ BK102.out; obtain ⟨hfz18_0, hfz18_1, hfz18_2, hfz18_3⟩ := fz4_ BK102.out) | (go_at_call 74; (with_reducible refine (bX_.calls ((ar_ l0 x3_1).f1) 0 x3_1 false _ A5.out).mono ?_); rintro e w' ⟨rfl, ⟨nd, rfl⟩⟩))
    go_ret
    exact ⟨by first | rfl | (simp [*, ao_, an_] <;> rfl), bq⟩
   subst c6
   have H1 : ((bp_.f k1 ((ar_ l0 x3_1).f2)).bind fun t104 => (if t104 = true then ((au_.f k1 ((ar_ l0 x3_1).f3)).bind fun t105 => (if t105 = true then (bG_.l0 k1 l0 (wrap64 (x3_1 + 1))) else (some false))) else (some false))) = some r := by rw [if_pos rfl] at H; exact H
   clear H
   have H := H1
   clear H1
   replace H := Option.bind_eq_some_iff.mp H
   obtain ⟨t104, A70, H⟩ := H
   (try dsimp only at H)
   have A7 := Aside0.mk A70
   clear A70
   by_cases c8 : t104 = true
   rotate_left
   ·replace c8 := Bool.eq_false_iff.mpr c8
    subst c8
    have H1 : (some false) = some r := by rw [if_neg (show ¬ (false = true) by decide)] at H; exact H
    clear H
    have H := H1
    clear H1
    obtain rfl := Option.some.inj H
    have p101 : 0 ≤ (x3_1 : Int) := of_decide_eq_true (by assumption)
    have q101 : x3_1 < (l0.length : Int) := of_decide_eq_true (by assumption)
    obtain ⟨ad101, A101_3, c101_3, e101, hx101_0, hx101_1, hx101_2, hx101_3, hl101_3, hi101_3⟩ := dp_ HR0.out x3_1 p101 q101
    cases e101
    replace hx101_0 := bu_ HB.out hx101_0
    replace hx101_1 := bu_ HB.out hx101_1
    replace hx101_2 := bu_ HB.out hx101_2
    replace hx101_3 := bu_ HB.out hx101_3
    have HR101_3 := Aside0.mk hi101_3
    have HC101_3 := Aside0.mk hl101_3
    clear hi101_3 hl101_3
    replace p101 := eq_true p101
    replace q101 := eq_true q101
    go_wp2_with (first | ((with_reducible refine aH_ (N := 4) rfl ?_); refine by_ ?hg (N := 4) ?hd (cs := #[.int .i64 0, .int .i64 0, .string (⟨#[]⟩ : ByteArray), .slice none 0 0]) (t := 78) ?hr ?_; (case hd => rfl); (case hg => rfl); (case hr => (go_simp; try rfl)); intro gb102 hg w15 hbox hb; have BK102 := Aside0.mk (hbox); have GW102 := Aside0.mk ((by rw [hg]; exact (ae_ (bz HB.out)) : w.heap.size ≤ gb102)); have GE102 := GW102; replace HB := Aside0.mk (ac_ (bz HB.out) hb); clear hb hbox hg; obtain ⟨hcz16_0, hcz16_1, hcz16_2, hcz16_3⟩ := cz4_ BK102.out; obtain ⟨hfz16_0, hfz16_1, hfz16_2, hfz16_3⟩ := fz4_ BK102.out) | (go_at_call 74; (with_reducible refine (bX_.calls ((ar_ l0 x3_1).f1) 0 x3_1 true _ A5.out).mono ?_); rintro e w' ⟨rfl, ⟨nd, rfl⟩⟩) | (go_at_call 47; (with_reducible refine (bp_.calls k1 ((ar_ l0 x3_1).f2) false _ A7.out).mono ?_); rintro e w' ⟨rfl, ⟨nd, rfl⟩⟩))
    go_ret
    exact ⟨by first | rfl | (simp [*, ao_, an_] <;> rfl), bq⟩
   subst c8
   have H1 : ((au_.f k1 ((ar_ l0 x3_1).f3)).bind fun t105 => (if t105 = true then (bG_.l0 k1 l0 (wrap64 (x3_1 + 1))) else (some false))) = some r := by rw [if_pos rfl] at H; exact H
   clear H
   have H := H1
   clear H1
   replace H := Option.bind_eq_some_iff.mp H
   obtain ⟨t105, A90, H⟩ := H
   (try dsimp only at H)
   have A9 := Aside0.mk A90
   clear A90
   have HC10 := Aside0.mk H
   clear H
   have p101 : 0 ≤ (x3_1 : Int) := of_decide_eq_true (by assumption)
   have q101 : x3_1 < (l0.length : Int) := of_decide_eq_true (by assumption)
   obtain ⟨ad101, A101_3, c101_3, e101, hx101_0, hx101_1, hx101_2, hx101_3, hl101_3, hi101_3⟩ := dp_ HR0.out x3_1 p101 q101
   cases e101
   replace hx101_0 := bu_ HB.out hx101_0
   replace hx101_1 := bu_ HB.out hx101_1
   replace hx101_2 := bu_ HB.out hx101_2
   replace hx101_3 := bu_ HB.out hx101_3
   have HR101_3 := Aside0.mk hi101_3
   have HC101_3 := Aside0.mk hl101_3
   clear hi101_3 hl101_3
   replace p101 := eq_true p101
   replace q101 := eq_true q101
   go_upto_if 38 with (first | ((with_reducible refine aH_ (N := 4) rfl ?_); refine by_ ?hg (N := 4) ?hd (cs := #[.int .i64 0, .int .i64 0, .string (⟨#[]⟩ : ByteArray), .slice none 0 0]) (t := 78) ?hr ?_; (case hd => rfl); (case hg => rfl); (case hr => (go_simp; try rfl)); intro gb102 hg w11 hbox hb; have BK102 := Aside0.mk (hbox); have GW102 := Aside0.mk ((by rw [hg]; exact (ae_ (bz HB.out)) : w.heap.size ≤ gb102)); have GE102 := GW102; replace HB := Aside0.mk (ac_ (bz HB.out) hb); clear hb hbox hg; obtain ⟨hcz12_0, hcz12_1, hcz12_2, hcz12_3⟩ := cz4_ BK102.out; obtain ⟨hfz12_0, hfz12_1, hfz12_2, hfz12_3⟩ := fz4_ BK102.out) | (go_at_call 74; (with_reducible refine (bX_.calls ((ar_ l0 x3_1).f1) 0 x3_1 true _ A5.out).mono ?_); rintro e w' ⟨rfl, ⟨nd, rfl⟩⟩) | (go_at_call 47; (with_reducible refine (bp_.calls k1 ((ar_ l0 x3_1).f2) true _ A7.out).mono ?_); rintro e w' ⟨rfl, ⟨nd, rfl⟩⟩) | (go_at_call 36; (with_reducible refine (au_.calls k1 _ _ ((ar_ l0 x3_1).f3) t105 _ ?side1 ?side2 A9.out).mono ?_); (case side1 => exact Kd.bM_ HR101_3.out (bq)); (case side2 => exact HC101_3.out); rintro e w13 ⟨rfl, hb⟩; replace BK102 := Aside0.mk (bb_ (g := gb102) (o := .cells #[.int .i64 ((ar_ l0 x3_1).f0), .int .i64 ((ar_ l0 x3_1).f1), .string ((ar_ l0 x3_1).f2), .slice A101_3 ((ar_ l0 x3_1).f3).length c101_3] 78 (0, 0)) (by exact kj4_3 (kj4_2 (kj4_1 (kj4_0 (kz BK102.out))))) hb); replace HB := Aside0.mk (ac_ (bq) hb); (try clear hb)))
   (try simp only [Act.put, lsa_, ls0_, ls1_])
   have H := HC10.out
   clear HC10
   by_cases c14 : t105 = true
   rotate_left
   ·replace c14 := Bool.eq_false_iff.mpr c14
    subst c14
    have H1 : (some false) = some r := by rw [if_neg (show ¬ (false = true) by decide)] at H; exact H
    clear H
    have H := H1
    clear H1
    obtain rfl := Option.some.inj H
    go_wp2
    go_ret
    exact ⟨by first | rfl | (simp [*, ao_, an_] <;> rfl), bq⟩
   subst c14
   have H1 : (bG_.l0 k1 l0 (wrap64 (x3_1 + 1))) = some r := by rw [if_pos rfl] at H; exact H
   clear H
   have H := H1
   clear H1
   have H' := Aside0.mk H
   clear H
   go_wp2
   go_roundg k1
   case measure => have := HK1.out; omega
   case rel => exact ⟨(wrap64 (x3_1 + 1)), (by first | rfl | (simp; done) | (simp [*]; done)), H', ⟨by have := HK1.out; omega⟩, ⟨bq⟩⟩
def cr_.f (k : Nat) (l0 : List (S78)) : Option (Bool) := (bG_.f k l0).bind fun t101 => (some t101)
set_option maxHeartbeats 8000000 in
set_option maxRecDepth 100000 in
theorem cr_.calls (k : Nat) (A0 : Option Addr) (c0 : Nat) (l0 : List (S78)) (r : Bool) (w : World) (hr0 : Kd.C k78 w A0 l0.length l0) (hc0 : l0.length ≤ c0) (h : cr_.f k l0 = some r) :
  Calls Try.prog 34 #[.slice A0 l0.length c0] w fun e w' => e = .returned (.bool r) ∧ Below w.heap.size w w' := by
 have HR0 := Aside0.mk hr0
 have HC0 := Aside0.mk hc0
 clear hr0 hc0
 have HB := Aside0.mk (Below.refl w.heap.size w)
 have H : ((bG_.f k l0).bind fun t101 => (some t101)) = some r := h
 clear h
 replace H := Option.bind_eq_some_iff.mp H
 obtain ⟨t101, A20, H⟩ := H
 (try dsimp only at H)
 have A2 := Aside0.mk A20
 clear A20
 obtain rfl := Option.some.inj H
 go_enter Try.func34, Try.ntmps34
 go_wp2_with (first | ((with_reducible refine ah_ (f := 46) rfl ?_); refine aN_ (some 4) rfl rfl Try.func46 (by kernel_rfl) rfl #[.slice A0 l0.length c0] rfl (by first | rfl | (simp only [lma_, lmc_, lmn_]; first | done | rfl)) ?_; (with_reducible refine (bG_.calls k _ _ l0 t101 _ ?side1 ?side2 A2.out).mono ?_); (case side1 => exact cz HR0.out); (case side2 => exact HC0.out); rintro e w3 ⟨rfl, hb⟩; refine ⟨_, rfl, ?_⟩; replace HB := Aside0.mk (ac_ (bz HB.out) hb); (try clear hb)))
 go_ret
 exact ⟨by first | rfl | (simp [*, ao_, an_] <;> rfl), bz HB.out⟩
end Go.Proofs.Ytiheginanghhjaa.Q
