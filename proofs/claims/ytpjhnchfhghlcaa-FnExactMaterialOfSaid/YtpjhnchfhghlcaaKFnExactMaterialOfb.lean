/- The statement FnExactMaterialOf: for all pictures and rates the program and the reference give the same cost of the veneers and the same code; what is handed over stays as it is. This text holds the functions' walks and the words for them. -/
import Derived.Test.YtpjhnchfhghlcaaKFnExactMaterialOfa
set_option linter.unusedVariables false
set_option linter.unusedSimpArgs false
namespace Go.Proofs.Ytpjhnchfhghlcaa.Q
open Go.RowKit Go.Proofs.YtpjhnchfhghlcaaW.PrintWords Go.Proofs.YtpjhnchfhghlcaaW.PrintLast Go.Proofs.YtpjhnchfhghlcaaW.PrintMore
attribute [local go_sem] aB_ aE_ aN_ aO_ ax_ aw_ aD_ aC_
def aG_.l0 : Nat → List (S37) → List Int → List (S81) → Int → Option ((List (S81)) × Bool)
 | 0, _, _, _, _ => none
 | k + 1, x0, x1, x6, x7 => if x7 < (x1.length : Int) then (if 0 ≤ x7 then (if 0 < (x0.length : Int) then ((ao_.f (rd x1 x7) 0 (wrap64 ((((ar_ x0 0).f2).length : Int) - 1))).bind fun t106 => (if t106 = true then (if 0 ≤ (rd x1 x7) then (if (rd x1 x7) < (((ar_ x0 0).f2).length : Int) then (if x6.length < 8796093022208 then (aG_.l0 k x0 x1 (x6 ++ [(⟨(ab_ ((ar_ x0 0).f2) (rd x1 x7)).f0, (ab_ ((ar_ x0 0).f2) (rd x1 x7)).f1⟩ : S81)]) (wrap64 (x7 + 1))) else (none)) else (none)) else (none)) else (some (([] : List (S81)), false)))) else (none)) else (none)) else (some (x6, true))
def aG_.f (k : Nat) (l0 : List (S37)) (l1 : List Int) : Option ((List (S81)) × Bool) := aG_.l0 k l0 l1 (([] : List (S81))) 0
def aG_.T5 : Bool × List (List Nat × List Nat) := (true, [([], []), ([], []), ([0, 1], [0, 1]), ([2], [2]), ([], []), ([4], [4]), ([5], [5]), ([6], [6]), ([7], [7]), ([8], [8]), ([3, 9], [3, 9]), ([10], [10])])
def aG_.B5 : List Nat := [0, 0, 3, 7, 0, 16, 48, 112, 240, 496, 1023, 2047]
theorem aG_.tab5 : rtab .any (opsOf Try.f48 5) = aG_.T5 := by kernel_rfl
theorem aG_.bits5 : cj_ aG_.T5.2 aG_.B5 = true := by kernel_rfl
def aG_.T7 : Bool × List (List Nat × List Nat) := (true, [([], []), ([], []), ([1], [1]), ([2], [2]), ([3], [3]), ([], []), ([], []), ([5, 6], [5, 6]), ([7], [7]), ([4, 8], [4, 8]), ([9], [9]), ([10], [10]), ([0, 11], [0, 11]), ([12, 12, 0, 1, 2, 3, 4, 5, 6, 7, 8, 9, 10, 11, 12], [0, 12])])
def aG_.B7 : List Nat := [0, 0, 2, 6, 14, 0, 0, 96, 224, 510, 1022, 2046, 4095, 8191]
theorem aG_.tab7 : rtab .any (opsOf Try.f48 7) = aG_.T7 := by kernel_rfl
theorem aG_.bits7 : cj_ aG_.T7.2 aG_.B7 = true := by kernel_rfl
set_option maxHeartbeats 8000000 in
set_option maxRecDepth 100000 in
theorem aG_.calls (k : Nat) (A0 : Option Addr) (l0 : List (S37)) (A1 : Option Addr) (c1 : Nat) (l1 : List Int) (r1 : List (S81)) (r2 : Bool) (w : World) (hr0 : Kd.C k37 w A0 l0.length l0) (hr1 : Kd.C (Kd.int .i64) w A1 l1.length l1) (hc1 : l1.length ≤ c1) (h : aG_.f k l0 l1 = some (r1, r2)) :
  Calls Try.prog 48 #[.pointer A0, .slice A1 l1.length c1] w fun e w' => ∃ v0_ : Value, e = .returned (.tuple #[v0_, .bool r2]) ∧ Kd.R k81 81 w' w.heap.size (fun _ => True) v0_ r1 ∧ Below w.heap.size w w' := by
 have hu81 := Try.underlying81
 have HR0 := Aside0.mk hr0
 clear hr0
 have HR1 := Aside0.mk hr1
 have HC1 := Aside0.mk hc1
 clear hr1 hc1
 have HB := Aside0.mk (Below.refl w.heap.size w)
 have H : (aG_.l0 k l0 l1 (([] : List (S81))) 0) = some (r1, r2) := h
 clear h
 obtain ⟨y101, hy101⟩ : ∃ y_ : List (S81), y_ = (([] : List (S81))) := ⟨_, rfl⟩
 replace H : (aG_.l0 k l0 l1 y101 0) = some (r1, r2) := by first | (rw [hy101]; with_reducible exact H) | (have H2_ := (Option.bind_some _ _).symm.trans H; rw [hy101]; with_reducible exact H2_) | (have H2_ := (Option.bind_some _ _).symm.trans H; with_reducible exact H2_) | with_reducible exact H | (rw [hy101]; exact H) | exact H
 have Ny101 := Aside0.mk hy101
 clear hy101
 have H' := Aside0.mk H
 clear H
 go_enter Try.func48, Try.ntmps48
 go_wp2_with (first | ((with_reducible refine al_ (N := 8) rfl ?_); refine Kd.R_lit k81 _ 81 ?hg (N := 8) ?hd (xs := ([] : List (S81))) (inner := []) (ok := fun _ => True) (okp := fun _ => True) ?hr ?hp (fun _ hk => hk) trivial (Below.refl _ _) (Nat.le_refl _) (by simp) ?_; (case hd => rfl); (case hg => rfl); (case hr => (go_simp; try rfl)); (case hp => exact (Reps.none _ _)); intro v102 w3 ho4 hb hg_ hnew_; clear hg_ hnew_; (first | rw [← Ny101.out] at ho4 | (simp only [Int.reduceToNat] at ho4; rw [← Ny101.out] at ho4)); have HO103 := Aside0.mk (Kd.bq_ ho4 (ae_ (bz HB.out))); replace HB := Aside0.mk (ad_ (bz HB.out) hb); clear hb ho4))
 (try simp only [Act.put, lsa_, ls0_, ls1_])
 go_loopg [6, 7] k (fun kq v6 v7 w' => ∃ (x6_1 : List (S81)) (x7_1 : Int), v7 = .int .i64 x7_1 ∧ Aside0 (aG_.l0 kq l0 l1 x6_1 x7_1 = some (r1, r2)) ∧ Aside0 (kq ≤ k) ∧ Aside0 (Kd.R k81 81 w' w.heap.size (fun _ => True) v6 x6_1) ∧ Aside0 (Below w.heap.size w w'))
 case atStart => exact ⟨(y101), (0), (by first | rfl | (simp; done) | (simp [*]; done)), H', ⟨Nat.le_refl _⟩, ⟨rz HO103.out⟩, ⟨bz HB.out⟩⟩
 case round =>
  clear H'
  obtain ⟨x6_1, x7_1, rfl, HA, HK1, HO_6, HB⟩ := hrel
  cases gk with
  | zero => exact absurd HA.out (by simp [aG_.l0])
  | succ k1 =>
   have H := HA.out
   clear HA
   simp only [aG_.l0] at H
   by_cases c5 : x7_1 < (l1.length : Int)
   rotate_left
   ·rw [if_neg c5] at H
    have c5b0 : decide (x7_1 < (l1.length : Int)) = false := decide_eq_false c5
    clear c5
    simp only [Option.some.injEq, Prod.mk.injEq] at H
    obtain ⟨rfl, rfl⟩ := H
    go_wp2
    go_ret2
    exact ⟨_, by first | rfl | (simp [*, ah_, ai_] <;> rfl), rz HO_6.out, bz HB.out⟩
   rw [if_pos c5] at H
   have c5b0 : decide (x7_1 < (l1.length : Int)) = true := decide_eq_true c5
   clear c5
   by_cases c6 : 0 ≤ x7_1
   rotate_left
   ·rw [if_neg c6] at H
    exact absurd H (by simp)
   rw [if_pos c6] at H
   have c6b0 : decide (0 ≤ x7_1) = true := decide_eq_true c6
   clear c6
   by_cases c7 : 0 < (l0.length : Int)
   rotate_left
   ·rw [if_neg c7] at H
    exact absurd H (by simp)
   rw [if_pos c7] at H
   have c7b0 : decide (0 < (l0.length : Int)) = true := decide_eq_true c7
   have c7b1 : decide (0 < l0.length) = true := decide_eq_true (by omega)
   clear c7
   replace H := Option.bind_eq_some_iff.mp H
   obtain ⟨t106, A80, H⟩ := H
   (try dsimp only at H)
   have A8 := Aside0.mk A80
   clear A80
   have HC9 := Aside0.mk H
   clear H
   try go_wp2
   have n0_ := Aside0.mk (Kd.R_drew HO_6.out)
   have n1_ := Aside0.mk (bD_ HB.out)
   clear HO_6
   clear HB
   have HO_6 := n0_
   have HB := n1_
   clear n0_ n1_
   have p104 : 0 ≤ (x7_1 : Int) := of_decide_eq_true (by assumption)
   have q104 : x7_1 < (l1.length : Int) := of_decide_eq_true (by assumption)
   obtain ⟨ad104, e104, hx104_0⟩ := Kd.at_int HR1.out x7_1 p104 q104
   have hw104_0 := hx104_0
   cases e104
   replace hx104_0 := bu_ HB.out hx104_0
   replace p104 := eq_true p104
   replace q104 := eq_true q104
   have p105 : 0 ≤ (0 : Int) := (by omega)
   have q105 : 0 < (l0.length : Int) := of_decide_eq_true (by assumption)
   obtain ⟨ad105, A105_2, c105_2, A105_3, c105_3, e105, hx105_0, hx105_1, hx105_2, hx105_3, hl105_2, hi105_2, hl105_3, hi105_3⟩ := cc_ HR0.out 0 p105 q105
   have hw105_3 := hx105_3
   (try simp only [Int.toNat_zero, Nat.zero_mul, Addr.add_zero'] at hw105_3)
   have hw105_2 := hx105_2
   (try simp only [Int.toNat_zero, Nat.zero_mul, Addr.add_zero'] at hw105_2)
   have hw105_1 := hx105_1
   (try simp only [Int.toNat_zero, Nat.zero_mul, Addr.add_zero'] at hw105_1)
   have hw105_0 := hx105_0
   (try simp only [Int.toNat_zero, Nat.zero_mul, Addr.add_zero'] at hw105_0)
   cases e105
   have qi105 : (0 < l0.length) = True := eq_true (by omega)
   (try simp only [Int.toNat_zero, Nat.zero_mul, Addr.add_zero'] at hx105_0 hx105_1)
   (try simp only [Int.toNat_zero, Nat.zero_mul, Addr.add_zero'] at hx105_2 hx105_3)
   replace hx105_0 := bu_ HB.out hx105_0
   replace hx105_1 := bu_ HB.out hx105_1
   replace hx105_2 := bu_ HB.out hx105_2
   replace hx105_3 := bu_ HB.out hx105_3
   have HR105_2 := Aside0.mk hi105_2
   have HC105_2 := Aside0.mk hl105_2
   clear hi105_2 hl105_2
   have HR105_3 := Aside0.mk hi105_3
   have HC105_3 := Aside0.mk hl105_3
   clear hi105_3 hl105_3
   replace p105 := eq_true p105
   replace q105 := eq_true q105
   refine cl_ (n := 12) (S := fun w' => w'.cell? (ad104.add (x7_1).toNat) = some (.int .i64 (rd l1 x7_1)) ∧ w'.cell? ad105 = some (.int .i64 ((ar_ l0 0).f0)) ∧ w'.cell? ⟨ad105.block, ad105.off + 1, none⟩ = some (.int .i64 ((ar_ l0 0).f1)) ∧ w'.cell? ⟨ad105.block, ad105.off + 2, none⟩ = some (.slice A105_2 ((ar_ l0 0).f2).length c105_2) ∧ w'.cell? ⟨ad105.block, ad105.off + 3, none⟩ = some (.slice A105_3 ((ar_ l0 0).f3).length c105_3)) (ds := []) #[f_,f_,f_,f_,f_,f_,f_,f_,f_,f_,f_,f_] (by kernel_rfl) rfl rfl ⟨(bv_ HB.out hw104_0), (bv_ HB.out hw105_0), (bv_ HB.out hw105_1), (bv_ HB.out hw105_2), (bv_ HB.out hw105_3)⟩ (fun hHeld => ?_); refine bo_ aG_.tab5 aG_.bits5 (fun HT_ HW_ => ?_)
   generalize wr.drew = w10 at HO_6 HB HR105_2 HR105_3 hx104_0 hx105_0 hx105_1 hx105_2 hx105_3 hHeld ⊢
   refine pu 0 15 #[t_,f_,f_,f_,f_,f_,f_,f_,f_,f_,f_,f_] HT_ ?_
   refine pu 1 16 #[t_,t_,f_,f_,f_,f_,f_,f_,f_,f_,f_,f_] HT_ ?_
   refine pu 2 17 #[t_,t_,t_,f_,f_,f_,f_,f_,f_,f_,f_,f_] HT_ ?_
   refine pu 4 19 #[t_,t_,t_,f_,t_,f_,f_,f_,f_,f_,f_,f_] HT_ ?_
   refine pu 5 20 #[t_,t_,t_,f_,t_,t_,f_,f_,f_,f_,f_,f_] HT_ ?_
   refine pu 6 21 #[t_,t_,t_,f_,t_,t_,t_,f_,f_,f_,f_,f_] HT_ ?_
   refine tk 3 18 #[t_,t_,t_,t_,t_,t_,t_,f_,f_,f_,f_,f_] HT_ HW_ hHeld ?_ (hv := by rintro w' ⟨s0, s1, s2, s3, s4⟩; go_simp; with_reducible rfl)
   refine tk 7 22 #[t_,t_,t_,t_,t_,t_,t_,t_,f_,f_,f_,f_] HT_ HW_ hHeld ?_ (hv := by rintro w' ⟨s0, s1, s2, s3, s4⟩; go_simp; with_reducible rfl)
   refine pu 8 23 #[t_,t_,t_,t_,t_,t_,t_,t_,t_,f_,f_,f_] HT_ ?_
   refine pu 9 24 #[t_,t_,t_,t_,t_,t_,t_,t_,t_,t_,f_,f_] HT_ ?_
   refine one_ (i := 10) (N := some 25) #[t_,t_,t_,t_,t_,t_,t_,t_,t_,t_,t_,f_] rfl rfl (bh_ HT_.out (by kernel_rfl)) (by decide) (fun K hK => ?_)
   (first | refine goes_ Try.func47 (by kernel_rfl) rfl #[.int .i64 (rd l1 x7_1), .int .i64 0, .int .i64 (wrap64 ((((ar_ l0 0).f2).length : Int) - 1))] (by rfl) rfl rfl (by first | rfl | (simp only [lma_, lmc_, lmn_]; first | done | rfl)) ?_ | refine RPW.by_ Try.func47 (by kernel_rfl) rfl #[.int .i64 (rd l1 x7_1), .int .i64 0, .int .i64 (wrap64 ((((ar_ l0 0).f2).length : Int) - 1))] (by rfl) rfl rfl rfl (by first | rfl | (simp only [lma_, lmc_, lmn_]; first | done | rfl)) ?_ | refine RPW.bz_ Try.func47 (by kernel_rfl) rfl #[.int .i64 (rd l1 x7_1), .int .i64 0, .int .i64 (wrap64 ((((ar_ l0 0).f2).length : Int) - 1))] (by rfl) rfl rfl rfl (by first | rfl | (simp only [lma_, lmc_, lmn_]; first | done | rfl)) ?_)
   with_reducible refine (ao_.calls (rd l1 x7_1) 0 (wrap64 ((((ar_ l0 0).f2).length : Int) - 1)) t106 _ A8.out).mono ?_
   rintro e w' ⟨rfl, ⟨nd, rfl⟩⟩
   refine ⟨_, rfl, ?_⟩
   refine hK.out _ _ ⟨(bv_ HB.out hw104_0), (bv_ HB.out hw105_0), (bv_ HB.out hw105_1), (bv_ HB.out hw105_2), (bv_ HB.out hw105_3)⟩ (fun hHeld => ?_)
   clear hK K
   refine norm_ (a' := ?_) ?_ ?_
   rotate_left
   ·show Act.put _ (some 25) _ = _
    simp only [Act.put, lsa_, ls0_, ls1_, i64_w, i32_w]
    rfl
   refine pu 11 26 #[t_,t_,t_,t_,t_,t_,t_,t_,t_,t_,t_,t_] HT_ ?_
   refine done_ (bS_ HT_.out (by kernel_rfl)) ?_
   go_upto_if 26 with (fail)
   have H := HC9.out
   clear HC9
   by_cases c11 : t106 = true
   rotate_left
   ·replace c11 := Bool.eq_false_iff.mpr c11
    subst c11
    have H1 : (some (([] : List (S81)), false)) = some (r1, r2) := by rw [if_neg (show ¬ (false = true) by decide)] at H; exact H
    clear H
    have H := H1
    clear H1
    simp only [Option.some.injEq, Prod.mk.injEq] at H
    obtain ⟨rfl, rfl⟩ := H
    go_wp2
    go_ret2
    exact ⟨_, by first | rfl | (simp [*, ah_, ai_] <;> rfl), by first | exact Kd.R_nil _ _ _ _ _ | exact Kd.N_nil _ _ _ _ _ | exact Kd.V_nil _ _ _ _ _ | exact Kd.Q_nil _ _ _ _ _ | exact Kd.S_nil _ _ _ _ _, bz HB.out⟩
   subst c11
   have H1 : (if 0 ≤ (rd l1 x7_1) then (if (rd l1 x7_1) < (((ar_ l0 0).f2).length : Int) then (if x6_1.length < 8796093022208 then (aG_.l0 k1 l0 l1 (x6_1 ++ [(⟨(ab_ ((ar_ l0 0).f2) (rd l1 x7_1)).f0, (ab_ ((ar_ l0 0).f2) (rd l1 x7_1)).f1⟩ : S81)]) (wrap64 (x7_1 + 1))) else (none)) else (none)) else (none)) = some (r1, r2) := by rw [if_pos rfl] at H; exact H
   clear H
   have H := H1
   clear H1
   by_cases c12 : 0 ≤ (rd l1 x7_1)
   rotate_left
   ·rw [if_neg c12] at H
    exact absurd H (by simp)
   rw [if_pos c12] at H
   have c12b0 : decide (0 ≤ (rd l1 x7_1)) = true := decide_eq_true c12
   clear c12
   (first | rw [c12b0] | (simp only [i64_w, i32_w]; rw [c12b0]) | (simp only [c12b1, Bool.not_true, Bool.not_false]) | (simp only [c12b0, Bool.not_true, Bool.not_false]) | skip)
   by_cases c13 : (rd l1 x7_1) < (((ar_ l0 0).f2).length : Int)
   rotate_left
   ·rw [if_neg c13] at H
    exact absurd H (by simp)
   rw [if_pos c13] at H
   have c13b0 : decide ((rd l1 x7_1) < (((ar_ l0 0).f2).length : Int)) = true := decide_eq_true c13
   clear c13
   by_cases c14 : x6_1.length < 8796093022208
   rotate_left
   ·rw [if_neg c14] at H
    exact absurd H (by simp)
   rw [if_pos c14] at H
   have LMc14 := Aside0.mk c14
   clear c14
   obtain ⟨y110, hy110⟩ : ∃ y_ : List (S81), y_ = (x6_1 ++ [(⟨(ab_ ((ar_ l0 0).f2) (rd l1 x7_1)).f0, (ab_ ((ar_ l0 0).f2) (rd l1 x7_1)).f1⟩ : S81)]) := ⟨_, rfl⟩
   replace H : (aG_.l0 k1 l0 l1 y110 (wrap64 (x7_1 + 1))) = some (r1, r2) := by first | (rw [hy110]; with_reducible exact H) | (have H2_ := (Option.bind_some _ _).symm.trans H; rw [hy110]; with_reducible exact H2_) | (have H2_ := (Option.bind_some _ _).symm.trans H; with_reducible exact H2_) | with_reducible exact H | (rw [hy110]; exact H) | exact H
   have Ny110 := Aside0.mk hy110
   clear hy110
   have H' := Aside0.mk H
   clear H
   try go_wp2
   (try (rw [cR_ w10]; generalize hq_ : World.drewN w10 _ = w10; replace HO_6 := Aside0.mk (rqR hq_ HO_6.out); replace HB := Aside0.mk (rqH hq_ HB.out); clear hq_))
   have n0_ := Aside0.mk (Kd.R_drew HO_6.out)
   have n1_ := Aside0.mk (bD_ HB.out)
   clear HO_6
   clear HB
   have HO_6 := n0_
   have HB := n1_
   clear n0_ n1_
   have p107 : 0 ≤ (0 : Int) := (by omega)
   have q107 : 0 < (l0.length : Int) := of_decide_eq_true (by assumption)
   obtain ⟨ad107, A107_2, c107_2, A107_3, c107_3, e107, hx107_0, hx107_1, hx107_2, hx107_3, hl107_2, hi107_2, hl107_3, hi107_3⟩ := cc_ HR0.out 0 p107 q107
   have hw107_3 := hx107_3
   (try simp only [Int.toNat_zero, Nat.zero_mul, Addr.add_zero'] at hw107_3)
   have hw107_2 := hx107_2
   (try simp only [Int.toNat_zero, Nat.zero_mul, Addr.add_zero'] at hw107_2)
   have hw107_1 := hx107_1
   (try simp only [Int.toNat_zero, Nat.zero_mul, Addr.add_zero'] at hw107_1)
   have hw107_0 := hx107_0
   (try simp only [Int.toNat_zero, Nat.zero_mul, Addr.add_zero'] at hw107_0)
   obtain rfl : ad105 = ad107 := (by injection e107)
   have qi107 : (0 < l0.length) = True := eq_true (by omega)
   (try simp only [Int.toNat_zero, Nat.zero_mul, Addr.add_zero'] at hx107_0 hx107_1)
   (try simp only [Int.toNat_zero, Nat.zero_mul, Addr.add_zero'] at hx107_2 hx107_3)
   replace hx107_0 := bu_ HB.out hx107_0
   replace hx107_1 := bu_ HB.out hx107_1
   replace hx107_2 := bu_ HB.out hx107_2
   replace hx107_3 := bu_ HB.out hx107_3
   have HR107_2 := Aside0.mk hi107_2
   have HC107_2 := Aside0.mk hl107_2
   clear hi107_2 hl107_2
   have HR107_3 := Aside0.mk hi107_3
   have HC107_3 := Aside0.mk hl107_3
   clear hi107_3 hl107_3
   replace p107 := eq_true p107
   replace q107 := eq_true q107
   have ea_ := Option.some.inj (hw105_2.symm.trans hw107_2)
   injection ea_ with ea_ en_ ec_
   (try subst ea_)
   (try subst ec_)
   (try clear ea_ ec_)
   clear en_
   have ea_ := Option.some.inj (hw105_3.symm.trans hw107_3)
   injection ea_ with ea_ en_ ec_
   (try subst ea_)
   (try subst ec_)
   (try clear ea_ ec_)
   clear en_
   have p108 : 0 ≤ (x7_1 : Int) := of_decide_eq_true (by assumption)
   have q108 : x7_1 < (l1.length : Int) := of_decide_eq_true (by assumption)
   obtain ⟨ad108, e108, hx108_0⟩ := Kd.at_int HR1.out x7_1 p108 q108
   have hw108_0 := hx108_0
   obtain rfl : ad104 = ad108 := (by injection e108)
   replace hx108_0 := bu_ HB.out hx108_0
   replace p108 := eq_true p108
   replace q108 := eq_true q108
   have p109 : 0 ≤ ((rd l1 x7_1) : Int) := of_decide_eq_true (by assumption)
   have q109 : (rd l1 x7_1) < (((ar_ l0 0).f2).length : Int) := of_decide_eq_true (by assumption)
   obtain ⟨ad109, e109, hx109_0, hx109_1⟩ := bX_ HR107_2.out (rd l1 x7_1) p109 q109
   have hw109_1 := hx109_1
   have hw109_0 := hx109_0
   cases e109
   replace hx109_0 := bu_ HB.out hx109_0
   replace hx109_1 := bu_ HB.out hx109_1
   replace p109 := eq_true p109
   replace q109 := eq_true q109
   refine cl_ (n := 14) (S := fun w' => w'.cell? ad105 = some (.int .i64 ((ar_ l0 0).f0)) ∧ w'.cell? ⟨ad105.block, ad105.off + 1, none⟩ = some (.int .i64 ((ar_ l0 0).f1)) ∧ w'.cell? ⟨ad105.block, ad105.off + 2, none⟩ = some (.slice (some ad109) ((ar_ l0 0).f2).length c105_2) ∧ w'.cell? ⟨ad105.block, ad105.off + 3, none⟩ = some (.slice A105_3 ((ar_ l0 0).f3).length c105_3) ∧ w'.cell? (ad104.add (x7_1).toNat) = some (.int .i64 (rd l1 x7_1)) ∧ w'.cell? (ad109.add (((rd l1 x7_1)).toNat * 2)) = some (.int .i64 ((ab_ ((ar_ l0 0).f2) (rd l1 x7_1)).f0)) ∧ w'.cell? ⟨(ad109.add (((rd l1 x7_1)).toNat * 2)).block, (ad109.add (((rd l1 x7_1)).toNat * 2)).off + 1, none⟩ = some (.int .i64 ((ab_ ((ar_ l0 0).f2) (rd l1 x7_1)).f1))) (ds := []) #[f_,f_,f_,f_,f_,f_,f_,f_,f_,f_,f_,f_,f_,f_] (by kernel_rfl) rfl rfl ⟨(bv_ HB.out hw107_0), (bv_ HB.out hw107_1), (bv_ HB.out hw107_2), (bv_ HB.out hw107_3), (bv_ HB.out hw108_0), (bv_ HB.out hw109_0), (bv_ HB.out hw109_1)⟩ (fun hHeld => ?_); refine bo_ aG_.tab7 aG_.bits7 (fun HT_ HW_ => ?_)
   generalize w10.drew = w15 at HO_6 HB HR107_2 HR107_3 hx107_0 hx107_1 hx107_2 hx107_3 hx108_0 hx109_0 hx109_1 hHeld ⊢
   refine pu 0 27 #[t_,f_,f_,f_,f_,f_,f_,f_,f_,f_,f_,f_,f_,f_] HT_ ?_
   refine pu 1 28 #[t_,t_,f_,f_,f_,f_,f_,f_,f_,f_,f_,f_,f_,f_] HT_ ?_
   refine pu 2 29 #[t_,t_,t_,f_,f_,f_,f_,f_,f_,f_,f_,f_,f_,f_] HT_ ?_
   refine pu 3 30 #[t_,t_,t_,t_,f_,f_,f_,f_,f_,f_,f_,f_,f_,f_] HT_ ?_
   refine pu 5 32 #[t_,t_,t_,t_,f_,t_,f_,f_,f_,f_,f_,f_,f_,f_] HT_ ?_
   refine pu 6 33 #[t_,t_,t_,t_,f_,t_,t_,f_,f_,f_,f_,f_,f_,f_] HT_ ?_
   refine pu 7 34 #[t_,t_,t_,t_,f_,t_,t_,t_,f_,f_,f_,f_,f_,f_] HT_ ?_
   refine tk 4 31 #[t_,t_,t_,t_,t_,t_,t_,t_,f_,f_,f_,f_,f_,f_] HT_ HW_ hHeld ?_ (hv := by rintro w' ⟨s0, s1, s2, s3, s4, s5, s6⟩; go_simp; with_reducible rfl)
   refine tk 8 35 #[t_,t_,t_,t_,t_,t_,t_,t_,t_,f_,f_,f_,f_,f_] HT_ HW_ hHeld ?_ (hv := by rintro w' ⟨s0, s1, s2, s3, s4, s5, s6⟩; go_simp; with_reducible rfl)
   refine pu 9 36 #[t_,t_,t_,t_,t_,t_,t_,t_,t_,t_,f_,f_,f_,f_] HT_ ?_
   refine tk 10 37 #[t_,t_,t_,t_,t_,t_,t_,t_,t_,t_,t_,f_,f_,f_] HT_ HW_ hHeld ?_ (hv := by rintro w' ⟨s0, s1, s2, s3, s4, s5, s6⟩; go_simp; with_reducible rfl)
   refine one_ (i := 11) (N := some 38) #[t_,t_,t_,t_,t_,t_,t_,t_,t_,t_,t_,t_,f_,f_] rfl rfl (bh_ HT_.out (by kernel_rfl)) (by decide) (fun K hK => ?_)
   refine value_ (w1 := ?_) (v := ?_) (by rfl) rfl ?_ ?_
   rotate_left 2
   ·go_simp
    constructor
    ·rfl
    ·rfl
   refine hK.out _ _ ⟨(World.cell?_alloc_lt _ _ _ (bl_ _ _ ((bv_ HB.out hw107_0)))).trans ((bv_ HB.out hw107_0)), (World.cell?_alloc_lt _ _ _ (bl_ _ _ ((bv_ HB.out hw107_1)))).trans ((bv_ HB.out hw107_1)), (World.cell?_alloc_lt _ _ _ (bl_ _ _ ((bv_ HB.out hw107_2)))).trans ((bv_ HB.out hw107_2)), (World.cell?_alloc_lt _ _ _ (bl_ _ _ ((bv_ HB.out hw107_3)))).trans ((bv_ HB.out hw107_3)), (World.cell?_alloc_lt _ _ _ (bl_ _ _ ((bv_ HB.out hw108_0)))).trans ((bv_ HB.out hw108_0)), (World.cell?_alloc_lt _ _ _ (bl_ _ _ ((bv_ HB.out hw109_0)))).trans ((bv_ HB.out hw109_0)), (World.cell?_alloc_lt _ _ _ (bl_ _ _ ((bv_ HB.out hw109_1)))).trans ((bv_ HB.out hw109_1))⟩ (fun hHeld => ?_)
   clear hK K
   refine norm_ (a' := ?_) ?_ ?_
   rotate_left
   ·show Act.put _ (some 38) _ = _
    simp only [Act.put, lsa_, ls0_, ls1_, i64_w, i32_w]
    rfl
   refine one_ (i := 12) (N := some 39) #[t_,t_,t_,t_,t_,t_,t_,t_,t_,t_,t_,t_,t_,f_] rfl rfl (bh_ HT_.out (by kernel_rfl)) (by decide) (fun K hK => ?_)
   refine Kd.R_append_step k81 (w0 := w) w.heap.size (by rfl) (.tmp 27) (.tmp 38) 34 81 (.agg #[(.int .i64 0), (.int .i64 0)]) 16 rfl Try.underlying34 info81 rfl (by decide) (by omega) u6 x6_1 (⟨(ab_ ((ar_ l0 0).f2) (rd l1 x7_1)).f0, (ab_ ((ar_ l0 0).f2) (rd l1 x7_1)).f1⟩ : S81) [.int .i64 ((ab_ ((ar_ l0 0).f2) (rd l1 x7_1)).f0), .int .i64 ((ab_ ((ar_ l0 0).f2) (rd l1 x7_1)).f1)] (fun _ => True) (fun _ => False) rfl rfl ?aP (fun _ hk => hk.elim) ?aF ?aO ?aB ?aS ?aL ?_
   (case aP => exact k81_mkM _ _ _ (⟨(ab_ ((ar_ l0 0).f2) (rd l1 x7_1)).f0, (ab_ ((ar_ l0 0).f2) (rd l1 x7_1)).f1⟩ : S81))
   (case aB => exact (bz HB.out))
   (case aF => exact (fun _ _ => trivial))
   (case aO => exact (rz HO_6.out))
   (case aS => exact (ae_ (bz HB.out)))
   (case aL => have := LMc14.out; omega)
   intro v111 w16 ho hb hg hat
   rw [← Ny110.out] at ho
   have n0_ := Aside0.mk (hb)
   have n1_ := Aside0.mk (ho)
   clear HB
   clear HO_6
   have HB := n0_
   have HO112 := n1_
   clear n0_ n1_
   clear ho hb hg hat
   refine hK.out _ _ ⟨(bv_ HB.out hw107_0), (bv_ HB.out hw107_1), (bv_ HB.out hw107_2), (bv_ HB.out hw107_3), (bv_ HB.out hw108_0), (bv_ HB.out hw109_0), (bv_ HB.out hw109_1)⟩ (fun hHeld => ?_)
   clear hK K
   refine norm_ (a' := ?_) ?_ ?_
   rotate_left
   ·show Act.put _ (some 39) _ = _
    simp only [Act.put, lsa_, ls0_, ls1_, i64_w, i32_w]
    rfl
   refine pu 13 6 #[t_,t_,t_,t_,t_,t_,t_,t_,t_,t_,t_,t_,t_,t_] HT_ ?_
   refine done_ (bS_ HT_.out (by kernel_rfl)) ?_
   try go_wp2
   go_roundg k1
   case measure => have := HK1.out; omega
   case rel => exact ⟨(y110), (wrap64 (x7_1 + 1)), (by first | rfl | (simp; done) | (simp [*]; done)), H', ⟨by have := HK1.out; omega⟩, ⟨rz HO112.out⟩, ⟨bz HB.out⟩⟩
theorem eqA81 (d : Nat) (w : World) (x0 y0 : Int) (x1 y1 : Int) :
  (Op.equalIn (d + 2) 81 (.agg #[.int .i64 x0, .int .i64 x1]) (.agg #[.int .i64 y0, .int .i64 y1])).run Try.prog w = .ok (x0 == y0 && (x1 == y1)) w := by
 refine eqA_of Try.underlying81 (by kernel_rfl) ?_
 refine eqf_cons (by rfl) (by go_simp; rfl) (by go_simp; rfl) (by go_simp) ?_
 exact eqf_last (by rfl) (by go_simp; rfl) (by go_simp; rfl) (by go_simp)
end Go.Proofs.Ytpjhnchfhghlcaa.Q
namespace Go.Proofs.Ytpjhnchfhghlcaa.Q
open Go.RowKit Go.Proofs.YtpjhnchfhghlcaaW.PrintWords Go.Proofs.YtpjhnchfhghlcaaW.PrintLast Go.Proofs.YtpjhnchfhghlcaaW.PrintMore
attribute [local go_sem] aB_ aE_ aN_ aO_ ax_ aw_ aD_ aC_
attribute [local go_sem high] eqA81
mutual
def au_.l0 : Nat → List (S37) → Int → Option (Bool)
 | 0, _, _ => none
 | k + 1, x0, x3 => if 0 < (x0.length : Int) then (if x3 < (((ar_ x0 0).f2).length : Int) then (if 0 ≤ x3 then ((ao_.f ((ab_ ((ar_ x0 0).f2) x3).f0) 0 ((ar_ x0 0).f0)).bind fun t106 => (if t106 = true then ((ao_.f ((ab_ ((ar_ x0 0).f2) x3).f1) 0 ((ar_ x0 0).f1)).bind fun t110 => (au_.j1 k x0 x3 (!t110))) else (au_.j1 k x0 x3 true))) else (none)) else (some true)) else (none)
def au_.j1 : Nat → List (S37) → Int → Bool → Option (Bool)
 | 0, _, _, _ => none
 | k + 1, x0, x3, x49 => if x49 = true then (some false) else (au_.l1 k x0 x3 0)
def au_.l1 : Nat → List (S37) → Int → Int → Option (Bool)
 | 0, _, _, _ => none
 | k + 1, x0, x3, x4 => if x4 < x3 then (if 0 < (x0.length : Int) then (if 0 ≤ x3 then (if x3 < (((ar_ x0 0).f2).length : Int) then (if 0 ≤ x4 then (if x4 < (((ar_ x0 0).f2).length : Int) then (if (((ab_ ((ar_ x0 0).f2) x3).f0) == ((ab_ ((ar_ x0 0).f2) x4).f0) && (((ab_ ((ar_ x0 0).f2) x3).f1) == ((ab_ ((ar_ x0 0).f2) x4).f1))) = true then (some false) else (au_.l1 k x0 x3 (wrap64 (x4 + 1)))) else (none)) else (none)) else (none)) else (none)) else (none)) else (au_.l0 k x0 (wrap64 (x3 + 1)))
end
def au_.f (k : Nat) (l0 : List (S37)) : Option (Bool) := if 0 < (l0.length : Int) then (if (((ar_ l0 0).f2).length : Int) > 48 then (some false) else (au_.l0 k l0 0)) else (none)
set_option maxHeartbeats 8000000 in
set_option maxRecDepth 100000 in
theorem au_.calls (k : Nat) (A0 : Option Addr) (l0 : List (S37)) (r : Bool) (w : World) (hr0 : Kd.C k37 w A0 l0.length l0) (h : au_.f k l0 = some r) :
  Calls Try.prog 61 #[.pointer A0] w fun e w' => e = .returned (.bool r) ∧ as_ w w' := by
 have hu81 := Try.underlying81
 have HR0 := Aside0.mk hr0
 clear hr0
 have H : (if 0 < (l0.length : Int) then (if (((ar_ l0 0).f2).length : Int) > 48 then (some false) else (au_.l0 k l0 0)) else (none)) = some r := h
 clear h
 by_cases c2 : 0 < (l0.length : Int)
 rotate_left
 ·rw [if_neg c2] at H
  exact absurd H (by simp)
 rw [if_pos c2] at H
 have c2b0 : decide (0 < (l0.length : Int)) = true := decide_eq_true c2
 have c2b1 : decide (0 < l0.length) = true := decide_eq_true (by omega)
 clear c2
 by_cases c3 : (((ar_ l0 0).f2).length : Int) > 48
 rotate_left
 ·rw [if_neg c3] at H
  have c3b0 : decide (48 < (((ar_ l0 0).f2).length : Int)) = false := decide_eq_false c3
  have c3b1 : decide (48 < ((ar_ l0 0).f2).length) = false := decide_eq_false (by omega)
  clear c3
  have H' := Aside0.mk H
  clear H
  have p101 : 0 ≤ (0 : Int) := (by omega)
  have q101 : 0 < (l0.length : Int) := of_decide_eq_true (by assumption)
  obtain ⟨ad101, A101_2, c101_2, A101_3, c101_3, e101, hx101_0, hx101_1, hx101_2, hx101_3, hl101_2, hi101_2, hl101_3, hi101_3⟩ := cc_ HR0.out 0 p101 q101
  cases e101
  have qi101 : (0 < l0.length) = True := eq_true (by omega)
  (try simp only [Int.toNat_zero, Nat.zero_mul, Addr.add_zero'] at hx101_0 hx101_1)
  (try simp only [Int.toNat_zero, Nat.zero_mul, Addr.add_zero'] at hx101_2 hx101_3)
  have HR101_2 := Aside0.mk hi101_2
  have HC101_2 := Aside0.mk hl101_2
  clear hi101_2 hl101_2
  have HR101_3 := Aside0.mk hi101_3
  have HC101_3 := Aside0.mk hl101_3
  clear hi101_3 hl101_3
  replace p101 := eq_true p101
  replace q101 := eq_true q101
  go_enter Try.func61, Try.ntmps61
  go_wp2
  repeat (go_quiet (fail); try go_wp2)
  (try simp only [Act.put, lsa_, ls0_, ls1_])
  go_loopg [3] k (fun kq v3 w' => ∃ (x3_1 : Int), v3 = .int .i64 x3_1 ∧ Aside0 (au_.l0 kq l0 x3_1 = some r) ∧ Aside0 (kq ≤ k) ∧ as_ w w')
  case atStart => exact ⟨(0), (by first | rfl | (simp; done) | (simp [*]; done)), H', ⟨Nat.le_refl _⟩, by repeat (first | exact as_.refl _ | apply as_.step)⟩
  case round =>
   clear H'
   obtain ⟨x3_1, rfl, HA, HK1, ⟨m1, rfl⟩⟩ := hrel
   cases gk with
   | zero => exact absurd HA.out (by simp [au_.l0])
   | succ k1 =>
    have H := HA.out
    clear HA
    simp only [au_.l0] at H
    by_cases c4 : 0 < (l0.length : Int)
    rotate_left
    ·rw [if_neg c4] at H
     exact absurd H (by simp)
    rw [if_pos c4] at H
    have c4b0 : decide (0 < (l0.length : Int)) = true := decide_eq_true c4
    have c4b1 : decide (0 < l0.length) = true := decide_eq_true (by omega)
    clear c4
    by_cases c5 : x3_1 < (((ar_ l0 0).f2).length : Int)
    rotate_left
    ·rw [if_neg c5] at H
     have c5b0 : decide (x3_1 < (((ar_ l0 0).f2).length : Int)) = false := decide_eq_false c5
     clear c5
     obtain rfl := Option.some.inj H
     have p102 : 0 ≤ (0 : Int) := (by omega)
     have q102 : 0 < (l0.length : Int) := of_decide_eq_true (by assumption)
     obtain ⟨ad102, A102_2, c102_2, A102_3, c102_3, e102, hx102_0, hx102_1, hx102_2, hx102_3, hl102_2, hi102_2, hl102_3, hi102_3⟩ := cc_ HR0.out 0 p102 q102
     obtain rfl : ad101 = ad102 := (by injection e102)
     have qi102 : (0 < l0.length) = True := eq_true (by omega)
     (try simp only [Int.toNat_zero, Nat.zero_mul, Addr.add_zero'] at hx102_0 hx102_1)
     (try simp only [Int.toNat_zero, Nat.zero_mul, Addr.add_zero'] at hx102_2 hx102_3)
     have HR102_2 := Aside0.mk hi102_2
     have HC102_2 := Aside0.mk hl102_2
     clear hi102_2 hl102_2
     have HR102_3 := Aside0.mk hi102_3
     have HC102_3 := Aside0.mk hl102_3
     clear hi102_3 hl102_3
     replace p102 := eq_true p102
     replace q102 := eq_true q102
     (try clear hx101_2)
     (try clear hx101_3)
     (try clear hx101_2)
     (try clear hx101_3)
     go_wp2
     repeat (go_quiet (fail); try go_wp2)
     go_ret
     exact ⟨by first | rfl | (simp; done) | (simp [*]; done), by repeat (first | exact as_.refl _ | apply as_.step)⟩
    rw [if_pos c5] at H
    have c5b0 : decide (x3_1 < (((ar_ l0 0).f2).length : Int)) = true := decide_eq_true c5
    clear c5
    have HC6 := Aside0.mk H
    clear H
    have p102 : 0 ≤ (0 : Int) := (by omega)
    have q102 : 0 < (l0.length : Int) := of_decide_eq_true (by assumption)
    obtain ⟨ad102, A102_2, c102_2, A102_3, c102_3, e102, hx102_0, hx102_1, hx102_2, hx102_3, hl102_2, hi102_2, hl102_3, hi102_3⟩ := cc_ HR0.out 0 p102 q102
    obtain rfl : ad101 = ad102 := (by injection e102)
    have qi102 : (0 < l0.length) = True := eq_true (by omega)
    (try simp only [Int.toNat_zero, Nat.zero_mul, Addr.add_zero'] at hx102_0 hx102_1)
    (try simp only [Int.toNat_zero, Nat.zero_mul, Addr.add_zero'] at hx102_2 hx102_3)
    have HR102_2 := Aside0.mk hi102_2
    have HC102_2 := Aside0.mk hl102_2
    clear hi102_2 hl102_2
    have HR102_3 := Aside0.mk hi102_3
    have HC102_3 := Aside0.mk hl102_3
    clear hi102_3 hl102_3
    replace p102 := eq_true p102
    replace q102 := eq_true q102
    (try clear hx101_2)
    (try clear hx101_3)
    (try clear hx101_2)
    (try clear hx101_3)
    go_upto_region 6 with (fail)
    repeat (go_quiet (fail); go_upto_region 6 with (fail))
    go_cut [49] (fun v49 wc => ∃ (kq : Nat) (x49_5 : Bool), v49 = .bool x49_5 ∧ Aside0 (au_.j1 kq l0 x3_1 x49_5 = some r) ∧ Aside0 (kq ≤ k1) ∧ as_ w wc)
    case first =>
     have H := HC6.out
     clear HC6
     by_cases c7 : 0 ≤ x3_1
     rotate_left
     ·rw [if_neg c7] at H
      exact absurd H (by simp)
     rw [if_pos c7] at H
     have c7b0 : decide (0 ≤ x3_1) = true := decide_eq_true c7
     clear c7
     (first | rw [c7b0] | (simp only [i64_w, i32_w]; rw [c7b0]) | (simp only [c7b1, Bool.not_true, Bool.not_false]) | (simp only [c7b0, Bool.not_true, Bool.not_false]) | skip)
     replace H := Option.bind_eq_some_iff.mp H
     obtain ⟨t106, A80, H⟩ := H
     (try dsimp only at H)
     have A8 := Aside0.mk A80
     clear A80
     by_cases c9 : t106 = true
     rotate_left
     ·replace c9 := Bool.eq_false_iff.mpr c9
      subst c9
      have H1 : (au_.j1 k1 l0 x3_1 true) = some r := by rw [if_neg (show ¬ (false = true) by decide)] at H; exact H
      clear H
      have H := H1
      clear H1
      have H' := Aside0.mk H
      clear H
      have p103 : 0 ≤ (0 : Int) := (by omega)
      have q103 : 0 < (l0.length : Int) := of_decide_eq_true (by assumption)
      obtain ⟨ad103, A103_2, c103_2, A103_3, c103_3, e103, hx103_0, hx103_1, hx103_2, hx103_3, hl103_2, hi103_2, hl103_3, hi103_3⟩ := cc_ HR0.out 0 p103 q103
      obtain rfl : ad101 = ad103 := (by injection e103)
      have qi103 : (0 < l0.length) = True := eq_true (by omega)
      (try simp only [Int.toNat_zero, Nat.zero_mul, Addr.add_zero'] at hx103_0 hx103_1)
      (try simp only [Int.toNat_zero, Nat.zero_mul, Addr.add_zero'] at hx103_2 hx103_3)
      have HR103_2 := Aside0.mk hi103_2
      have HC103_2 := Aside0.mk hl103_2
      clear hi103_2 hl103_2
      have HR103_3 := Aside0.mk hi103_3
      have HC103_3 := Aside0.mk hl103_3
      clear hi103_3 hl103_3
      replace p103 := eq_true p103
      replace q103 := eq_true q103
      (try clear hx101_2)
      (try clear hx101_3)
      (try clear hx101_2)
      (try clear hx101_3)
      (try clear hx102_2)
      (try clear hx102_3)
      have p104 : 0 ≤ (x3_1 : Int) := of_decide_eq_true (by assumption)
      have q104 : x3_1 < (((ar_ l0 0).f2).length : Int) := of_decide_eq_true (by assumption)
      obtain ⟨ad104, e104, hx104_0, hx104_1⟩ := bX_ HR103_2.out x3_1 p104 q104
      cases e104
      replace p104 := eq_true p104
      replace q104 := eq_true q104
      have p105 : 0 ≤ (0 : Int) := (by omega)
      have q105 : 0 < (l0.length : Int) := of_decide_eq_true (by assumption)
      obtain ⟨ad105, A105_2, c105_2, A105_3, c105_3, e105, hx105_0, hx105_1, hx105_2, hx105_3, hl105_2, hi105_2, hl105_3, hi105_3⟩ := cc_ HR0.out 0 p105 q105
      obtain rfl : ad101 = ad105 := (by injection e105)
      have qi105 : (0 < l0.length) = True := eq_true (by omega)
      (try simp only [Int.toNat_zero, Nat.zero_mul, Addr.add_zero'] at hx105_0 hx105_1)
      (try simp only [Int.toNat_zero, Nat.zero_mul, Addr.add_zero'] at hx105_2 hx105_3)
      have HR105_2 := Aside0.mk hi105_2
      have HC105_2 := Aside0.mk hl105_2
      clear hi105_2 hl105_2
      have HR105_3 := Aside0.mk hi105_3
      have HC105_3 := Aside0.mk hl105_3
      clear hi105_3 hl105_3
      replace p105 := eq_true p105
      replace q105 := eq_true q105
      have ea_ := Option.some.inj (hx103_2.symm.trans hx105_2)
      injection ea_ with ea_ en_ ec_
      (try subst ea_)
      (try subst ec_)
      (try clear ea_ ec_)
      clear en_
      have ea_ := Option.some.inj (hx103_3.symm.trans hx105_3)
      injection ea_ with ea_ en_ ec_
      (try subst ea_)
      (try subst ec_)
      (try clear ea_ ec_)
      clear en_
      go_wp2_with (first | (go_at_call 47; (with_reducible refine (ao_.calls ((ab_ ((ar_ l0 0).f2) x3_1).f0) 0 ((ar_ l0 0).f0) false _ A8.out).mono ?_); rintro e w' ⟨rfl, ⟨nd, rfl⟩⟩; (try first | exact ⟨rfl, _, World.drewN_drewN _ _ _⟩ | exact ⟨rfl, _, Eq.trans (World.drewN_drewN _ _ _) (congrArg (World.drewN _) (Nat.add_assoc _ _ _))⟩)))
      repeat (go_quiet (first | (go_at_call 47; (with_reducible refine (ao_.calls ((ab_ ((ar_ l0 0).f2) x3_1).f0) 0 ((ar_ l0 0).f0) false _ A8.out).mono ?_); rintro e w' ⟨rfl, ⟨nd, rfl⟩⟩; (try first | exact ⟨rfl, _, World.drewN_drewN _ _ _⟩ | exact ⟨rfl, _, Eq.trans (World.drewN_drewN _ _ _) (congrArg (World.drewN _) (Nat.add_assoc _ _ _))⟩))); try go_wp2_with (first | (go_at_call 47; (with_reducible refine (ao_.calls ((ab_ ((ar_ l0 0).f2) x3_1).f0) 0 ((ar_ l0 0).f0) false _ A8.out).mono ?_); rintro e w' ⟨rfl, ⟨nd, rfl⟩⟩; (try first | exact ⟨rfl, _, World.drewN_drewN _ _ _⟩ | exact ⟨rfl, _, Eq.trans (World.drewN_drewN _ _ _) (congrArg (World.drewN _) (Nat.add_assoc _ _ _))⟩))))
      go_meet
      case rel => exact ⟨_, (true), (by first | rfl | (simp; done) | (simp [*]; done)), H', ⟨by have := HK1.out; first | omega | exact Nat.le_refl _⟩, by repeat (first | exact as_.refl _ | apply as_.step)⟩
     subst c9
     have H1 : ((ao_.f ((ab_ ((ar_ l0 0).f2) x3_1).f1) 0 ((ar_ l0 0).f1)).bind fun t110 => (au_.j1 k1 l0 x3_1 (!t110))) = some r := by rw [if_pos rfl] at H; exact H
     clear H
     have H := H1
     clear H1
     replace H := Option.bind_eq_some_iff.mp H
     obtain ⟨t110, A100, H⟩ := H
     (try dsimp only at H)
     have A10 := Aside0.mk A100
     clear A100
     have H' := Aside0.mk H
     clear H
     have p103 : 0 ≤ (0 : Int) := (by omega)
     have q103 : 0 < (l0.length : Int) := of_decide_eq_true (by assumption)
     obtain ⟨ad103, A103_2, c103_2, A103_3, c103_3, e103, hx103_0, hx103_1, hx103_2, hx103_3, hl103_2, hi103_2, hl103_3, hi103_3⟩ := cc_ HR0.out 0 p103 q103
     obtain rfl : ad101 = ad103 := (by injection e103)
     have qi103 : (0 < l0.length) = True := eq_true (by omega)
     (try simp only [Int.toNat_zero, Nat.zero_mul, Addr.add_zero'] at hx103_0 hx103_1)
     (try simp only [Int.toNat_zero, Nat.zero_mul, Addr.add_zero'] at hx103_2 hx103_3)
     have HR103_2 := Aside0.mk hi103_2
     have HC103_2 := Aside0.mk hl103_2
     clear hi103_2 hl103_2
     have HR103_3 := Aside0.mk hi103_3
     have HC103_3 := Aside0.mk hl103_3
     clear hi103_3 hl103_3
     replace p103 := eq_true p103
     replace q103 := eq_true q103
     (try clear hx101_2)
     (try clear hx101_3)
     (try clear hx101_2)
     (try clear hx101_3)
     (try clear hx102_2)
     (try clear hx102_3)
     have p104 : 0 ≤ (x3_1 : Int) := of_decide_eq_true (by assumption)
     have q104 : x3_1 < (((ar_ l0 0).f2).length : Int) := of_decide_eq_true (by assumption)
     obtain ⟨ad104, e104, hx104_0, hx104_1⟩ := bX_ HR103_2.out x3_1 p104 q104
     cases e104
     replace p104 := eq_true p104
     replace q104 := eq_true q104
     have p105 : 0 ≤ (0 : Int) := (by omega)
     have q105 : 0 < (l0.length : Int) := of_decide_eq_true (by assumption)
     obtain ⟨ad105, A105_2, c105_2, A105_3, c105_3, e105, hx105_0, hx105_1, hx105_2, hx105_3, hl105_2, hi105_2, hl105_3, hi105_3⟩ := cc_ HR0.out 0 p105 q105
     obtain rfl : ad101 = ad105 := (by injection e105)
     have qi105 : (0 < l0.length) = True := eq_true (by omega)
     (try simp only [Int.toNat_zero, Nat.zero_mul, Addr.add_zero'] at hx105_0 hx105_1)
     (try simp only [Int.toNat_zero, Nat.zero_mul, Addr.add_zero'] at hx105_2 hx105_3)
     have HR105_2 := Aside0.mk hi105_2
     have HC105_2 := Aside0.mk hl105_2
     clear hi105_2 hl105_2
     have HR105_3 := Aside0.mk hi105_3
     have HC105_3 := Aside0.mk hl105_3
     clear hi105_3 hl105_3
     replace p105 := eq_true p105
     replace q105 := eq_true q105
     have ea_ := Option.some.inj (hx103_2.symm.trans hx105_2)
     injection ea_ with ea_ en_ ec_
     (try subst ea_)
     (try subst ec_)
     (try clear ea_ ec_)
     clear en_
     have ea_ := Option.some.inj (hx103_3.symm.trans hx105_3)
     injection ea_ with ea_ en_ ec_
     (try subst ea_)
     (try subst ec_)
     (try clear ea_ ec_)
     clear en_
     have p107 : 0 ≤ (0 : Int) := (by omega)
     have q107 : 0 < (l0.length : Int) := of_decide_eq_true (by assumption)
     obtain ⟨ad107, A107_2, c107_2, A107_3, c107_3, e107, hx107_0, hx107_1, hx107_2, hx107_3, hl107_2, hi107_2, hl107_3, hi107_3⟩ := cc_ HR0.out 0 p107 q107
     obtain rfl : ad101 = ad107 := (by injection e107)
     have qi107 : (0 < l0.length) = True := eq_true (by omega)
     (try simp only [Int.toNat_zero, Nat.zero_mul, Addr.add_zero'] at hx107_0 hx107_1)
     (try simp only [Int.toNat_zero, Nat.zero_mul, Addr.add_zero'] at hx107_2 hx107_3)
     have HR107_2 := Aside0.mk hi107_2
     have HC107_2 := Aside0.mk hl107_2
     clear hi107_2 hl107_2
     have HR107_3 := Aside0.mk hi107_3
     have HC107_3 := Aside0.mk hl107_3
     clear hi107_3 hl107_3
     replace p107 := eq_true p107
     replace q107 := eq_true q107
     have ea_ := Option.some.inj (hx103_2.symm.trans hx107_2)
     injection ea_ with ea_ en_ ec_
     (try subst ea_)
     (try subst ec_)
     (try clear ea_ ec_)
     clear en_
     have ea_ := Option.some.inj (hx103_3.symm.trans hx107_3)
     injection ea_ with ea_ en_ ec_
     (try subst ea_)
     (try subst ec_)
     (try clear ea_ ec_)
     clear en_
     have p108 : 0 ≤ (x3_1 : Int) := of_decide_eq_true (by assumption)
     have q108 : x3_1 < (((ar_ l0 0).f2).length : Int) := of_decide_eq_true (by assumption)
     obtain ⟨ad108, e108, hx108_0, hx108_1⟩ := bX_ HR107_2.out x3_1 p108 q108
     obtain rfl : ad104 = ad108 := (by injection e108)
     replace p108 := eq_true p108
     replace q108 := eq_true q108
     have p109 : 0 ≤ (0 : Int) := (by omega)
     have q109 : 0 < (l0.length : Int) := of_decide_eq_true (by assumption)
     obtain ⟨ad109, A109_2, c109_2, A109_3, c109_3, e109, hx109_0, hx109_1, hx109_2, hx109_3, hl109_2, hi109_2, hl109_3, hi109_3⟩ := cc_ HR0.out 0 p109 q109
     obtain rfl : ad101 = ad109 := (by injection e109)
     have qi109 : (0 < l0.length) = True := eq_true (by omega)
     (try simp only [Int.toNat_zero, Nat.zero_mul, Addr.add_zero'] at hx109_0 hx109_1)
     (try simp only [Int.toNat_zero, Nat.zero_mul, Addr.add_zero'] at hx109_2 hx109_3)
     have HR109_2 := Aside0.mk hi109_2
     have HC109_2 := Aside0.mk hl109_2
     clear hi109_2 hl109_2
     have HR109_3 := Aside0.mk hi109_3
     have HC109_3 := Aside0.mk hl109_3
     clear hi109_3 hl109_3
     replace p109 := eq_true p109
     replace q109 := eq_true q109
     have ea_ := Option.some.inj (hx103_2.symm.trans hx109_2)
     injection ea_ with ea_ en_ ec_
     (try subst ea_)
     (try subst ec_)
     (try clear ea_ ec_)
     clear en_
     have ea_ := Option.some.inj (hx103_3.symm.trans hx109_3)
     injection ea_ with ea_ en_ ec_
     (try subst ea_)
     (try subst ec_)
     (try clear ea_ ec_)
     clear en_
     go_wp2_with (first | (go_at_call 47; (with_reducible refine (ao_.calls ((ab_ ((ar_ l0 0).f2) x3_1).f0) 0 ((ar_ l0 0).f0) true _ A8.out).mono ?_); rintro e w' ⟨rfl, ⟨nd, rfl⟩⟩; (try first | exact ⟨rfl, _, World.drewN_drewN _ _ _⟩ | exact ⟨rfl, _, Eq.trans (World.drewN_drewN _ _ _) (congrArg (World.drewN _) (Nat.add_assoc _ _ _))⟩)) | (go_at_call 47; (with_reducible refine (ao_.calls ((ab_ ((ar_ l0 0).f2) x3_1).f1) 0 ((ar_ l0 0).f1) t110 _ A10.out).mono ?_); rintro e w' ⟨rfl, ⟨nd, rfl⟩⟩; (try first | exact ⟨rfl, _, World.drewN_drewN _ _ _⟩ | exact ⟨rfl, _, Eq.trans (World.drewN_drewN _ _ _) (congrArg (World.drewN _) (Nat.add_assoc _ _ _))⟩)))
     repeat (go_quiet (first | (go_at_call 47; (with_reducible refine (ao_.calls ((ab_ ((ar_ l0 0).f2) x3_1).f0) 0 ((ar_ l0 0).f0) true _ A8.out).mono ?_); rintro e w' ⟨rfl, ⟨nd, rfl⟩⟩; (try first | exact ⟨rfl, _, World.drewN_drewN _ _ _⟩ | exact ⟨rfl, _, Eq.trans (World.drewN_drewN _ _ _) (congrArg (World.drewN _) (Nat.add_assoc _ _ _))⟩)) | (go_at_call 47; (with_reducible refine (ao_.calls ((ab_ ((ar_ l0 0).f2) x3_1).f1) 0 ((ar_ l0 0).f1) t110 _ A10.out).mono ?_); rintro e w' ⟨rfl, ⟨nd, rfl⟩⟩; (try first | exact ⟨rfl, _, World.drewN_drewN _ _ _⟩ | exact ⟨rfl, _, Eq.trans (World.drewN_drewN _ _ _) (congrArg (World.drewN _) (Nat.add_assoc _ _ _))⟩))); try go_wp2_with (first | (go_at_call 47; (with_reducible refine (ao_.calls ((ab_ ((ar_ l0 0).f2) x3_1).f0) 0 ((ar_ l0 0).f0) true _ A8.out).mono ?_); rintro e w' ⟨rfl, ⟨nd, rfl⟩⟩; (try first | exact ⟨rfl, _, World.drewN_drewN _ _ _⟩ | exact ⟨rfl, _, Eq.trans (World.drewN_drewN _ _ _) (congrArg (World.drewN _) (Nat.add_assoc _ _ _))⟩)) | (go_at_call 47; (with_reducible refine (ao_.calls ((ab_ ((ar_ l0 0).f2) x3_1).f1) 0 ((ar_ l0 0).f1) t110 _ A10.out).mono ?_); rintro e w' ⟨rfl, ⟨nd, rfl⟩⟩; (try first | exact ⟨rfl, _, World.drewN_drewN _ _ _⟩ | exact ⟨rfl, _, Eq.trans (World.drewN_drewN _ _ _) (congrArg (World.drewN _) (Nat.add_assoc _ _ _))⟩))))
     go_meet
     case rel => exact ⟨_, (!t110), (by first | rfl | (simp; done) | (simp [*]; done)), H', ⟨by have := HK1.out; first | omega | exact Nat.le_refl _⟩, by repeat (first | exact as_.refl _ | apply as_.step)⟩
    case rest =>
     clear HC6
     obtain ⟨kq, x49_5, rfl, HA, HJ5, ⟨mc5, rfl⟩⟩ := hcut
     cases kq with
     | zero => exact absurd HA.out (by simp [au_.j1])
     | succ kj5 =>
      have H := HA.out
      clear HA
      simp only [au_.j1] at H
      by_cases c11 : x49_5 = true
      rotate_left
      ·replace c11 := Bool.eq_false_iff.mpr c11
       subst c11
       have H1 : (au_.l1 kj5 l0 x3_1 0) = some r := by rw [if_neg (show ¬ (false = true) by decide)] at H; exact H
       clear H
       have H := H1
       clear H1
       have H' := Aside0.mk H
       clear H
       go_wp2
       repeat (go_quiet (fail); try go_wp2)
       (try simp only [Act.put, lsa_, ls0_, ls1_])
       go_loopg [4] kj5 (fun kq v4 w' => ∃ (x4_3 : Int), v4 = .int .i64 x4_3 ∧ Aside0 (au_.l1 kq l0 x3_1 x4_3 = some r) ∧ Aside0 (kq ≤ kj5) ∧ as_ w w')
       case atStart => exact ⟨(0), (by first | rfl | (simp; done) | (simp [*]; done)), H', ⟨Nat.le_refl _⟩, by repeat (first | exact as_.refl _ | apply as_.step)⟩
       case round =>
        clear H'
        obtain ⟨x4_3, rfl, HA, HK3, ⟨m3, rfl⟩⟩ := hrel
        cases gk with
        | zero => exact absurd HA.out (by simp [au_.l1])
        | succ k3 =>
         have H := HA.out
         clear HA
         simp only [au_.l1] at H
         by_cases c12 : x4_3 < x3_1
         rotate_left
         ·rw [if_neg c12] at H
          have c12b0 : decide (x4_3 < x3_1) = false := decide_eq_false c12
          clear c12
          have H' := Aside0.mk H
          clear H
          go_wp2
          repeat (go_quiet (fail); try go_wp2)
          go_roundg k3
          case measure => have := HK1.out; have := HJ5.out; have := HK3.out; omega
          case rel => exact ⟨(wrap64 (x3_1 + 1)), (by first | rfl | (simp; done) | (simp [*]; done)), H', ⟨by have := HK1.out; have := HJ5.out; have := HK3.out; omega⟩, by repeat (first | exact as_.refl _ | apply as_.step)⟩
         rw [if_pos c12] at H
         have c12b0 : decide (x4_3 < x3_1) = true := decide_eq_true c12
         clear c12
         by_cases c13 : 0 < (l0.length : Int)
         rotate_left
         ·rw [if_neg c13] at H
          exact absurd H (by simp)
         rw [if_pos c13] at H
         have c13b0 : decide (0 < (l0.length : Int)) = true := decide_eq_true c13
         have c13b1 : decide (0 < l0.length) = true := decide_eq_true (by omega)
         clear c13
         by_cases c14 : 0 ≤ x3_1
         rotate_left
         ·rw [if_neg c14] at H
          exact absurd H (by simp)
         rw [if_pos c14] at H
         have c14b0 : decide (0 ≤ x3_1) = true := decide_eq_true c14
         clear c14
         by_cases c15 : x3_1 < (((ar_ l0 0).f2).length : Int)
         rotate_left
         ·rw [if_neg c15] at H
          exact absurd H (by simp)
         rw [if_pos c15] at H
         have c15b0 : decide (x3_1 < (((ar_ l0 0).f2).length : Int)) = true := decide_eq_true c15
         clear c15
         by_cases c16 : 0 ≤ x4_3
         rotate_left
         ·rw [if_neg c16] at H
          exact absurd H (by simp)
         rw [if_pos c16] at H
         have c16b0 : decide (0 ≤ x4_3) = true := decide_eq_true c16
         clear c16
         by_cases c17 : x4_3 < (((ar_ l0 0).f2).length : Int)
         rotate_left
         ·rw [if_neg c17] at H
          exact absurd H (by simp)
         rw [if_pos c17] at H
         have c17b0 : decide (x4_3 < (((ar_ l0 0).f2).length : Int)) = true := decide_eq_true c17
         clear c17
         by_cases c18 : (((ab_ ((ar_ l0 0).f2) x3_1).f0) == ((ab_ ((ar_ l0 0).f2) x4_3).f0) && (((ab_ ((ar_ l0 0).f2) x3_1).f1) == ((ab_ ((ar_ l0 0).f2) x4_3).f1))) = true
         rotate_left
         ·rw [if_neg c18] at H
          have c18b0 : (((ab_ ((ar_ l0 0).f2) x3_1).f0) == ((ab_ ((ar_ l0 0).f2) x4_3).f0) && (((ab_ ((ar_ l0 0).f2) x3_1).f1) == ((ab_ ((ar_ l0 0).f2) x4_3).f1))) = false := by simpa using c18
          (try (have c18b1 : decide (((ab_ ((ar_ l0 0).f2) x3_1).f0) = ((ab_ ((ar_ l0 0).f2) x4_3).f0) && (((ab_ ((ar_ l0 0).f2) x3_1).f1) == ((ab_ ((ar_ l0 0).f2) x4_3).f1))) = false := by simpa using c18))
          (try (have c18b2 : (((ab_ ((ar_ l0 0).f2) x3_1).f0) == ((ab_ ((ar_ l0 0).f2) x4_3).f0) && (((ab_ ((ar_ l0 0).f2) x3_1).f1) == ((ab_ ((ar_ l0 0).f2) x4_3).f1))) = false := by simpa using c18))
          (try (have c18b3 : ¬ (((ab_ ((ar_ l0 0).f2) x3_1).f0) = ((ab_ ((ar_ l0 0).f2) x4_3).f0) && (((ab_ ((ar_ l0 0).f2) x3_1).f1) == ((ab_ ((ar_ l0 0).f2) x4_3).f1))) := by simpa using c18))
          clear c18
          have H' := Aside0.mk H
          clear H
          have p111 : 0 ≤ (0 : Int) := (by omega)
          have q111 : 0 < (l0.length : Int) := of_decide_eq_true (by assumption)
          obtain ⟨ad111, A111_2, c111_2, A111_3, c111_3, e111, hx111_0, hx111_1, hx111_2, hx111_3, hl111_2, hi111_2, hl111_3, hi111_3⟩ := cc_ HR0.out 0 p111 q111
          obtain rfl : ad101 = ad111 := (by injection e111)
          have qi111 : (0 < l0.length) = True := eq_true (by omega)
          (try simp only [Int.toNat_zero, Nat.zero_mul, Addr.add_zero'] at hx111_0 hx111_1)
          (try simp only [Int.toNat_zero, Nat.zero_mul, Addr.add_zero'] at hx111_2 hx111_3)
          have HR111_2 := Aside0.mk hi111_2
          have HC111_2 := Aside0.mk hl111_2
          clear hi111_2 hl111_2
          have HR111_3 := Aside0.mk hi111_3
          have HC111_3 := Aside0.mk hl111_3
          clear hi111_3 hl111_3
          replace p111 := eq_true p111
          replace q111 := eq_true q111
          (try clear hx101_2)
          (try clear hx101_3)
          (try clear hx101_2)
          (try clear hx101_3)
          (try clear hx102_2)
          (try clear hx102_3)
          (try clear hx103_2)
          (try clear hx103_3)
          (try clear hx105_2)
          (try clear hx105_3)
          (try clear hx107_2)
          (try clear hx107_3)
          (try clear hx109_2)
          (try clear hx109_3)
          (try clear hx103_2)
          (try clear hx103_3)
          (try clear hx105_2)
          (try clear hx105_3)
          have p112 : 0 ≤ (x3_1 : Int) := of_decide_eq_true (by assumption)
          have q112 : x3_1 < (((ar_ l0 0).f2).length : Int) := of_decide_eq_true (by assumption)
          obtain ⟨ad112, e112, hx112_0, hx112_1⟩ := bX_ HR111_2.out x3_1 p112 q112
          cases e112
          replace p112 := eq_true p112
          replace q112 := eq_true q112
          have p113 : 0 ≤ (0 : Int) := (by omega)
          have q113 : 0 < (l0.length : Int) := of_decide_eq_true (by assumption)
          obtain ⟨ad113, A113_2, c113_2, A113_3, c113_3, e113, hx113_0, hx113_1, hx113_2, hx113_3, hl113_2, hi113_2, hl113_3, hi113_3⟩ := cc_ HR0.out 0 p113 q113
          obtain rfl : ad101 = ad113 := (by injection e113)
          have qi113 : (0 < l0.length) = True := eq_true (by omega)
          (try simp only [Int.toNat_zero, Nat.zero_mul, Addr.add_zero'] at hx113_0 hx113_1)
          (try simp only [Int.toNat_zero, Nat.zero_mul, Addr.add_zero'] at hx113_2 hx113_3)
          have HR113_2 := Aside0.mk hi113_2
          have HC113_2 := Aside0.mk hl113_2
          clear hi113_2 hl113_2
          have HR113_3 := Aside0.mk hi113_3
          have HC113_3 := Aside0.mk hl113_3
          clear hi113_3 hl113_3
          replace p113 := eq_true p113
          replace q113 := eq_true q113
          have ea_ := Option.some.inj (hx111_2.symm.trans hx113_2)
          injection ea_ with ea_ en_ ec_
          (try subst ea_)
          (try subst ec_)
          (try clear ea_ ec_)
          clear en_
          have ea_ := Option.some.inj (hx111_3.symm.trans hx113_3)
          injection ea_ with ea_ en_ ec_
          (try subst ea_)
          (try subst ec_)
          (try clear ea_ ec_)
          clear en_
          have p114 : 0 ≤ (x4_3 : Int) := of_decide_eq_true (by assumption)
          have q114 : x4_3 < (((ar_ l0 0).f2).length : Int) := of_decide_eq_true (by assumption)
          obtain ⟨ad114, e114, hx114_0, hx114_1⟩ := bX_ HR113_2.out x4_3 p114 q114
          obtain rfl : ad112 = ad114 := (by injection e114)
          replace p114 := eq_true p114
          replace q114 := eq_true q114
          go_wp2
          repeat (go_quiet (fail); try go_wp2)
          go_roundg k3
          case measure => have := HK1.out; have := HJ5.out; have := HK3.out; omega
          case rel => exact ⟨(wrap64 (x4_3 + 1)), (by first | rfl | (simp; done) | (simp [*]; done)), H', ⟨by have := HK1.out; have := HJ5.out; have := HK3.out; omega⟩, by repeat (first | exact as_.refl _ | apply as_.step)⟩
         rw [if_pos c18] at H
         have c18b0 : (((ab_ ((ar_ l0 0).f2) x3_1).f0) == ((ab_ ((ar_ l0 0).f2) x4_3).f0) && (((ab_ ((ar_ l0 0).f2) x3_1).f1) == ((ab_ ((ar_ l0 0).f2) x4_3).f1))) = true := c18
         (try (have c18b1 : decide (((ab_ ((ar_ l0 0).f2) x3_1).f0) = ((ab_ ((ar_ l0 0).f2) x4_3).f0) && (((ab_ ((ar_ l0 0).f2) x3_1).f1) == ((ab_ ((ar_ l0 0).f2) x4_3).f1))) = true := by simpa using c18))
         (try (have c18b2 : (((ab_ ((ar_ l0 0).f2) x3_1).f0) == ((ab_ ((ar_ l0 0).f2) x4_3).f0) && (((ab_ ((ar_ l0 0).f2) x3_1).f1) == ((ab_ ((ar_ l0 0).f2) x4_3).f1))) = true := by simpa using c18))
         clear c18
         obtain rfl := Option.some.inj H
         have p111 : 0 ≤ (0 : Int) := (by omega)
         have q111 : 0 < (l0.length : Int) := of_decide_eq_true (by assumption)
         obtain ⟨ad111, A111_2, c111_2, A111_3, c111_3, e111, hx111_0, hx111_1, hx111_2, hx111_3, hl111_2, hi111_2, hl111_3, hi111_3⟩ := cc_ HR0.out 0 p111 q111
         obtain rfl : ad101 = ad111 := (by injection e111)
         have qi111 : (0 < l0.length) = True := eq_true (by omega)
         (try simp only [Int.toNat_zero, Nat.zero_mul, Addr.add_zero'] at hx111_0 hx111_1)
         (try simp only [Int.toNat_zero, Nat.zero_mul, Addr.add_zero'] at hx111_2 hx111_3)
         have HR111_2 := Aside0.mk hi111_2
         have HC111_2 := Aside0.mk hl111_2
         clear hi111_2 hl111_2
         have HR111_3 := Aside0.mk hi111_3
         have HC111_3 := Aside0.mk hl111_3
         clear hi111_3 hl111_3
         replace p111 := eq_true p111
         replace q111 := eq_true q111
         (try clear hx101_2)
         (try clear hx101_3)
         (try clear hx101_2)
         (try clear hx101_3)
         (try clear hx102_2)
         (try clear hx102_3)
         (try clear hx103_2)
         (try clear hx103_3)
         (try clear hx105_2)
         (try clear hx105_3)
         (try clear hx107_2)
         (try clear hx107_3)
         (try clear hx109_2)
         (try clear hx109_3)
         (try clear hx103_2)
         (try clear hx103_3)
         (try clear hx105_2)
         (try clear hx105_3)
         have p112 : 0 ≤ (x3_1 : Int) := of_decide_eq_true (by assumption)
         have q112 : x3_1 < (((ar_ l0 0).f2).length : Int) := of_decide_eq_true (by assumption)
         obtain ⟨ad112, e112, hx112_0, hx112_1⟩ := bX_ HR111_2.out x3_1 p112 q112
         cases e112
         replace p112 := eq_true p112
         replace q112 := eq_true q112
         have p113 : 0 ≤ (0 : Int) := (by omega)
         have q113 : 0 < (l0.length : Int) := of_decide_eq_true (by assumption)
         obtain ⟨ad113, A113_2, c113_2, A113_3, c113_3, e113, hx113_0, hx113_1, hx113_2, hx113_3, hl113_2, hi113_2, hl113_3, hi113_3⟩ := cc_ HR0.out 0 p113 q113
         obtain rfl : ad101 = ad113 := (by injection e113)
         have qi113 : (0 < l0.length) = True := eq_true (by omega)
         (try simp only [Int.toNat_zero, Nat.zero_mul, Addr.add_zero'] at hx113_0 hx113_1)
         (try simp only [Int.toNat_zero, Nat.zero_mul, Addr.add_zero'] at hx113_2 hx113_3)
         have HR113_2 := Aside0.mk hi113_2
         have HC113_2 := Aside0.mk hl113_2
         clear hi113_2 hl113_2
         have HR113_3 := Aside0.mk hi113_3
         have HC113_3 := Aside0.mk hl113_3
         clear hi113_3 hl113_3
         replace p113 := eq_true p113
         replace q113 := eq_true q113
         have ea_ := Option.some.inj (hx111_2.symm.trans hx113_2)
         injection ea_ with ea_ en_ ec_
         (try subst ea_)
         (try subst ec_)
         (try clear ea_ ec_)
         clear en_
         have ea_ := Option.some.inj (hx111_3.symm.trans hx113_3)
         injection ea_ with ea_ en_ ec_
         (try subst ea_)
         (try subst ec_)
         (try clear ea_ ec_)
         clear en_
         have p114 : 0 ≤ (x4_3 : Int) := of_decide_eq_true (by assumption)
         have q114 : x4_3 < (((ar_ l0 0).f2).length : Int) := of_decide_eq_true (by assumption)
         obtain ⟨ad114, e114, hx114_0, hx114_1⟩ := bX_ HR113_2.out x4_3 p114 q114
         obtain rfl : ad112 = ad114 := (by injection e114)
         replace p114 := eq_true p114
         replace q114 := eq_true q114
         go_wp2
         repeat (go_quiet (fail); try go_wp2)
         go_ret
         exact ⟨by first | rfl | (simp; done) | (simp [*]; done), by repeat (first | exact as_.refl _ | apply as_.step)⟩
      subst c11
      have H1 : (some false) = some r := by rw [if_pos rfl] at H; exact H
      clear H
      have H := H1
      clear H1
      obtain rfl := Option.some.inj H
      go_wp2
      repeat (go_quiet (fail); try go_wp2)
      go_ret
      exact ⟨by first | rfl | (simp; done) | (simp [*]; done), by repeat (first | exact as_.refl _ | apply as_.step)⟩
 rw [if_pos c3] at H
 have c3b0 : decide (48 < (((ar_ l0 0).f2).length : Int)) = true := decide_eq_true c3
 have c3b1 : decide (48 < ((ar_ l0 0).f2).length) = true := decide_eq_true (by omega)
 clear c3
 obtain rfl := Option.some.inj H
 have p101 : 0 ≤ (0 : Int) := (by omega)
 have q101 : 0 < (l0.length : Int) := of_decide_eq_true (by assumption)
 obtain ⟨ad101, A101_2, c101_2, A101_3, c101_3, e101, hx101_0, hx101_1, hx101_2, hx101_3, hl101_2, hi101_2, hl101_3, hi101_3⟩ := cc_ HR0.out 0 p101 q101
 cases e101
 have qi101 : (0 < l0.length) = True := eq_true (by omega)
 (try simp only [Int.toNat_zero, Nat.zero_mul, Addr.add_zero'] at hx101_0 hx101_1)
 (try simp only [Int.toNat_zero, Nat.zero_mul, Addr.add_zero'] at hx101_2 hx101_3)
 have HR101_2 := Aside0.mk hi101_2
 have HC101_2 := Aside0.mk hl101_2
 clear hi101_2 hl101_2
 have HR101_3 := Aside0.mk hi101_3
 have HC101_3 := Aside0.mk hl101_3
 clear hi101_3 hl101_3
 replace p101 := eq_true p101
 replace q101 := eq_true q101
 go_enter Try.func61, Try.ntmps61
 go_wp2
 repeat (go_quiet (fail); try go_wp2)
 go_ret
 exact ⟨by first | rfl | (simp; done) | (simp [*]; done), by repeat (first | exact as_.refl _ | apply as_.step)⟩
end Go.Proofs.Ytpjhnchfhghlcaa.Q
namespace Go.Proofs.Ytpjhnchfhghlcaa.Q
open Go.RowKit Go.Proofs.YtpjhnchfhghlcaaW.PrintWords Go.Proofs.YtpjhnchfhghlcaaW.PrintLast Go.Proofs.YtpjhnchfhghlcaaW.PrintMore
attribute [local go_sem] aB_ aE_ aN_ aO_ ax_ aw_ aD_ aC_
def bZ_.f (a0 : Int) : Option (Bool) := if a0 ≥ 97 then (some (decide (a0 ≤ 122))) else (some false)
set_option maxHeartbeats 8000000 in
set_option maxRecDepth 100000 in
theorem bZ_.calls (a0 : Int) (r : Bool) (w : World) (h : bZ_.f a0 = some r) :
  Calls Try.prog 73 #[.int .u8 a0] w fun e w' => e = .returned (.bool r) ∧ as_ w w' := by
 have H : (if a0 ≥ 97 then (some (decide (a0 ≤ 122))) else (some false)) = some r := h
 clear h
 by_cases c2 : a0 ≥ 97
 rotate_left
 ·rw [if_neg c2] at H
  have c2b0 : decide (97 ≤ a0) = false := decide_eq_false c2
  clear c2
  obtain rfl := Option.some.inj H
  go_enter Try.func73, Try.ntmps73
  go_wp2
  go_ret
  exact ⟨by first | rfl | (simp; done) | (simp [*]; done), by repeat (first | exact as_.refl _ | apply as_.step)⟩
 rw [if_pos c2] at H
 have c2b0 : decide (97 ≤ a0) = true := decide_eq_true c2
 clear c2
 obtain rfl := Option.some.inj H
 go_enter Try.func73, Try.ntmps73
 go_wp2
 go_ret
 exact ⟨by first | rfl | (simp; done) | (simp [*]; done), by repeat (first | exact as_.refl _ | apply as_.step)⟩
def cU_.f (a0 : Int) : Option (Bool) := if a0 ≥ 48 then (some (decide (a0 ≤ 57))) else (some false)
set_option maxHeartbeats 8000000 in
set_option maxRecDepth 100000 in
theorem cU_.calls (a0 : Int) (r : Bool) (w : World) (h : cU_.f a0 = some r) :
  Calls Try.prog 74 #[.int .u8 a0] w fun e w' => e = .returned (.bool r) ∧ as_ w w' := by
 have H : (if a0 ≥ 48 then (some (decide (a0 ≤ 57))) else (some false)) = some r := h
 clear h
 by_cases c2 : a0 ≥ 48
 rotate_left
 ·rw [if_neg c2] at H
  have c2b0 : decide (48 ≤ a0) = false := decide_eq_false c2
  clear c2
  obtain rfl := Option.some.inj H
  go_enter Try.func74, Try.ntmps74
  go_wp2
  go_ret
  exact ⟨by first | rfl | (simp; done) | (simp [*]; done), by repeat (first | exact as_.refl _ | apply as_.step)⟩
 rw [if_pos c2] at H
 have c2b0 : decide (48 ≤ a0) = true := decide_eq_true c2
 clear c2
 obtain rfl := Option.some.inj H
 go_enter Try.func74, Try.ntmps74
 go_wp2
 go_ret
 exact ⟨by first | rfl | (simp; done) | (simp [*]; done), by repeat (first | exact as_.refl _ | apply as_.step)⟩
mutual
def aJ_.j0 : Nat → ByteArray → Bool → Option (Bool)
 | 0, _, _ => none
 | k + 1, x0, x16 => if x16 = true then (some false) else (aJ_.l0 k x0 0)
def aJ_.l0 : Nat → ByteArray → Int → Option (Bool)
 | 0, _, _ => none
 | k + 1, x0, x3 => if x3 < (x0.size : Int) then (if 0 ≤ x3 then ((bZ_.f (bt x0 x3)).bind fun t102 => (if t102 = true then (aJ_.l0 k x0 (wrap64 (x3 + 1))) else ((cU_.f (bt x0 x3)).bind fun t103 => (if t103 = true then (aJ_.l0 k x0 (wrap64 (x3 + 1))) else (some false))))) else (none)) else (some true)
end
def aJ_.f (k : Nat) (a0 : ByteArray) : Option (Bool) := if a0.toList = ([] : List UInt8) then (aJ_.j0 k a0 true) else (if (a0.size : Int) > 10 then (aJ_.j0 k a0 true) else (if 0 < (a0.size : Int) then ((bZ_.f (bt a0 0)).bind fun t101 => (aJ_.j0 k a0 (!t101))) else (none)))
set_option maxHeartbeats 8000000 in
set_option maxRecDepth 100000 in
theorem aJ_.calls (k : Nat) (a0 : ByteArray) (r : Bool) (w : World) (h : aJ_.f k a0 = some r) :
  Calls Try.prog 62 #[.string a0] w fun e w' => e = .returned (.bool r) ∧ as_ w w' := by
 have H : (if a0.toList = ([] : List UInt8) then (aJ_.j0 k a0 true) else (if (a0.size : Int) > 10 then (aJ_.j0 k a0 true) else (if 0 < (a0.size : Int) then ((bZ_.f (bt a0 0)).bind fun t101 => (aJ_.j0 k a0 (!t101))) else (none)))) = some r := h
 clear h
 have HC2 := Aside0.mk H
 clear H
 go_enter Try.func62, Try.ntmps62
 go_upto_region 1 with (fail)
 go_cut [16] (fun v16 wc => ∃ (kq : Nat) (x16_1 : Bool), v16 = .bool x16_1 ∧ Aside0 (aJ_.j0 kq a0 x16_1 = some r) ∧ Aside0 (kq ≤ k) ∧ as_ w wc)
 case first =>
  have H := HC2.out
  clear HC2
  by_cases c3 : a0.toList = ([] : List UInt8)
  rotate_left
  ·rw [if_neg c3] at H
   have c3b0 : (a0.toList == ([] : List UInt8)) = false := beq_eq_false_iff_ne.mpr c3
   have c3b1 : (a0.toList != ([] : List UInt8)) = true := bne_iff_ne.mpr c3
   (try (have c3b8 := c3b0; simp only [List.beq_nil_eq] at c3b8))
   (first | rw [c3b0] | (simp only [i64_w, i32_w]; rw [c3b0]) | (simp only [c3b1, Bool.not_true, Bool.not_false]) | (simp only [c3b0, Bool.not_true, Bool.not_false]) | rw [c3b8] | (simp only [c3b8, Bool.not_true, Bool.not_false]) | skip)
   by_cases c4 : (a0.size : Int) > 10
   rotate_left
   ·rw [if_neg c4] at H
    have c4b0 : decide (10 < (a0.size : Int)) = false := decide_eq_false c4
    have c4b1 : decide (10 < a0.size) = false := decide_eq_false (by omega)
    clear c4
    by_cases c5 : 0 < (a0.size : Int)
    rotate_left
    ·rw [if_neg c5] at H
     exact absurd H (by simp)
    rw [if_pos c5] at H
    have c5b0 : decide (0 < (a0.size : Int)) = true := decide_eq_true c5
    have c5b1 : decide (0 < a0.size) = true := decide_eq_true (by omega)
    clear c5
    replace H := Option.bind_eq_some_iff.mp H
    obtain ⟨t101, A70, H⟩ := H
    (try dsimp only at H)
    have A7 := Aside0.mk A70
    clear A70
    have H' := Aside0.mk H
    clear H
    have p6 : 0 ≤ (0 : Int) := (by omega)
    have q6 : 0 < a0.size := (by have : (0 : Int) < (a0.size : Int) := of_decide_eq_true (by assumption); omega)
    have hx6 : ∀ h : 0 < a0.size, ((a0[0]'h).toNat : Int) = bt a0 0 := bt_at a0 0
    clear p6
    have qi6 : (0 < (a0.size : Int)) = True := eq_true (of_decide_eq_true (by assumption))
    replace q6 := eq_true q6
    go_wp2_with (first | (go_at_call 73; (with_reducible refine (bZ_.calls (bt a0 0) t101 _ A7.out).mono ?_); rintro e w' ⟨rfl, ⟨nd, rfl⟩⟩))
    go_meet
    case rel => exact ⟨_, (!t101), (by first | rfl | (simp; done) | (simp [*]; done)), H', ⟨by first | omega | exact Nat.le_refl _⟩, by repeat (first | exact as_.refl _ | apply as_.step)⟩
   rw [if_pos c4] at H
   have c4b0 : decide (10 < (a0.size : Int)) = true := decide_eq_true c4
   have c4b1 : decide (10 < a0.size) = true := decide_eq_true (by omega)
   clear c4
   have H' := Aside0.mk H
   clear H
   go_wp2
   go_meet
   case rel => exact ⟨_, (true), (by first | rfl | (simp; done) | (simp [*]; done)), H', ⟨by first | omega | exact Nat.le_refl _⟩, by repeat (first | exact as_.refl _ | apply as_.step)⟩
  rw [if_pos c3] at H
  have c3b0 : (a0.toList == ([] : List UInt8)) = true := beq_iff_eq.mpr c3
  have c3b1 : (a0.toList != ([] : List UInt8)) = false := bne_eq_false_iff_eq.mpr c3
  (try (have c3b8 := c3b0; simp only [List.beq_nil_eq] at c3b8))
  clear c3
  (first | rw [c3b0] | (simp only [i64_w, i32_w]; rw [c3b0]) | (simp only [c3b1, Bool.not_true, Bool.not_false]) | (simp only [c3b0, Bool.not_true, Bool.not_false]) | rw [c3b8] | (simp only [c3b8, Bool.not_true, Bool.not_false]) | skip)
  have H' := Aside0.mk H
  clear H
  go_wp2
  go_meet
  case rel => exact ⟨_, (true), (by first | rfl | (simp; done) | (simp [*]; done)), H', ⟨by first | omega | exact Nat.le_refl _⟩, by repeat (first | exact as_.refl _ | apply as_.step)⟩
 case rest =>
  clear HC2
  obtain ⟨kq, x16_1, rfl, HA, HJ1, ⟨mc1, rfl⟩⟩ := hcut
  cases kq with
  | zero => exact absurd HA.out (by simp [aJ_.j0])
  | succ kj1 =>
   have H := HA.out
   clear HA
   simp only [aJ_.j0] at H
   by_cases c8 : x16_1 = true
   rotate_left
   ·replace c8 := Bool.eq_false_iff.mpr c8
    subst c8
    have H1 : (aJ_.l0 kj1 a0 0) = some r := by rw [if_neg (show ¬ (false = true) by decide)] at H; exact H
    clear H
    have H := H1
    clear H1
    have H' := Aside0.mk H
    clear H
    go_wp2
    (try simp only [Act.put, lsa_, ls0_, ls1_])
    go_loopg [3] kj1 (fun kq v3 w' => ∃ (x3_2 : Int), v3 = .int .i64 x3_2 ∧ Aside0 (aJ_.l0 kq a0 x3_2 = some r) ∧ Aside0 (kq ≤ kj1) ∧ as_ w w')
    case atStart => exact ⟨(0), (by first | rfl | (simp; done) | (simp [*]; done)), H', ⟨Nat.le_refl _⟩, by repeat (first | exact as_.refl _ | apply as_.step)⟩
    case round =>
     clear H'
     obtain ⟨x3_2, rfl, HA, HK2, ⟨m2, rfl⟩⟩ := hrel
     cases gk with
     | zero => exact absurd HA.out (by simp [aJ_.l0])
     | succ k2 =>
      have H := HA.out
      clear HA
      simp only [aJ_.l0] at H
      by_cases c9 : x3_2 < (a0.size : Int)
      rotate_left
      ·rw [if_neg c9] at H
       have c9b0 : decide (x3_2 < (a0.size : Int)) = false := decide_eq_false c9
       clear c9
       obtain rfl := Option.some.inj H
       go_wp2
       go_ret
       exact ⟨by first | rfl | (simp; done) | (simp [*]; done), by repeat (first | exact as_.refl _ | apply as_.step)⟩
      rw [if_pos c9] at H
      have c9b0 : decide (x3_2 < (a0.size : Int)) = true := decide_eq_true c9
      clear c9
      by_cases c10 : 0 ≤ x3_2
      rotate_left
      ·rw [if_neg c10] at H
       exact absurd H (by simp)
      rw [if_pos c10] at H
      have c10b0 : decide (0 ≤ x3_2) = true := decide_eq_true c10
      clear c10
      replace H := Option.bind_eq_some_iff.mp H
      obtain ⟨t102, A120, H⟩ := H
      (try dsimp only at H)
      have A12 := Aside0.mk A120
      clear A120
      by_cases c13 : t102 = true
      rotate_left
      ·replace c13 := Bool.eq_false_iff.mpr c13
       subst c13
       have H1 : ((cU_.f (bt a0 x3_2)).bind fun t103 => (if t103 = true then (aJ_.l0 k2 a0 (wrap64 (x3_2 + 1))) else (some false))) = some r := by rw [if_neg (show ¬ (false = true) by decide)] at H; exact H
       clear H
       have H := H1
       clear H1
       replace H := Option.bind_eq_some_iff.mp H
       obtain ⟨t103, A150, H⟩ := H
       (try dsimp only at H)
       have A15 := Aside0.mk A150
       clear A150
       have HC16 := Aside0.mk H
       clear H
       have p11 : 0 ≤ (x3_2 : Int) := of_decide_eq_true (by assumption)
       have q11 : x3_2 < (a0.size : Int) := of_decide_eq_true (by assumption)
       have hx11 := bt_at a0 x3_2
       replace p11 := eq_true p11
       replace q11 := eq_true q11
       go_upto_if 34 with (first | ((with_reducible refine an_ (f := 73) rfl ?_); refine aU_ (some 26) rfl rfl Try.func73 (by kernel_rfl) rfl #[.int .u8 (bt a0 x3_2)] rfl (by first | rfl | (simp only [lma_, lmc_, lmn_]; first | done | rfl)) ?_; (with_reducible refine (bZ_.calls (bt a0 x3_2) false _ A12.out).mono ?_); rintro e w' ⟨rfl, ⟨nd, rfl⟩⟩; refine ⟨_, rfl, ?_⟩; skip; have p14 : 0 ≤ (x3_2 : Int) := of_decide_eq_true (by assumption); have q14 : x3_2 < (a0.size : Int) := of_decide_eq_true (by assumption); have hx14 := bt_at a0 x3_2; replace p14 := eq_true p14; replace q14 := eq_true q14) | (go_at_call 74; (with_reducible refine (cU_.calls (bt a0 x3_2) t103 _ A15.out).mono ?_); rintro e w' ⟨rfl, ⟨nd, rfl⟩⟩; skip))
       (try simp only [Act.put, lsa_, ls0_, ls1_])
       have H := HC16.out
       clear HC16
       by_cases c17 : t103 = true
       rotate_left
       ·replace c17 := Bool.eq_false_iff.mpr c17
        subst c17
        have H1 : (some false) = some r := by rw [if_neg (show ¬ (false = true) by decide)] at H; exact H
        clear H
        have H := H1
        clear H1
        obtain rfl := Option.some.inj H
        go_wp2
        go_ret
        exact ⟨by first | rfl | (simp; done) | (simp [*]; done), by repeat (first | exact as_.refl _ | apply as_.step)⟩
       subst c17
       have H1 : (aJ_.l0 k2 a0 (wrap64 (x3_2 + 1))) = some r := by rw [if_pos rfl] at H; exact H
       clear H
       have H := H1
       clear H1
       have H' := Aside0.mk H
       clear H
       go_wp2
       go_roundg k2
       case measure => have := HJ1.out; have := HK2.out; omega
       case rel => exact ⟨(wrap64 (x3_2 + 1)), (by first | rfl | (simp; done) | (simp [*]; done)), H', ⟨by have := HJ1.out; have := HK2.out; omega⟩, by repeat (first | exact as_.refl _ | apply as_.step)⟩
      subst c13
      have H1 : (aJ_.l0 k2 a0 (wrap64 (x3_2 + 1))) = some r := by rw [if_pos rfl] at H; exact H
      clear H
      have H := H1
      clear H1
      have H' := Aside0.mk H
      clear H
      have p11 : 0 ≤ (x3_2 : Int) := of_decide_eq_true (by assumption)
      have q11 : x3_2 < (a0.size : Int) := of_decide_eq_true (by assumption)
      have hx11 := bt_at a0 x3_2
      replace p11 := eq_true p11
      replace q11 := eq_true q11
      go_wp2_with (first | ((with_reducible refine an_ (f := 73) rfl ?_); refine aU_ (some 26) rfl rfl Try.func73 (by kernel_rfl) rfl #[.int .u8 (bt a0 x3_2)] rfl (by first | rfl | (simp only [lma_, lmc_, lmn_]; first | done | rfl)) ?_; (with_reducible refine (bZ_.calls (bt a0 x3_2) true _ A12.out).mono ?_); rintro e w' ⟨rfl, ⟨nd, rfl⟩⟩; refine ⟨_, rfl, ?_⟩))
      go_roundg k2
      case measure => have := HJ1.out; have := HK2.out; omega
      case rel => exact ⟨(wrap64 (x3_2 + 1)), (by first | rfl | (simp; done) | (simp [*]; done)), H', ⟨by have := HJ1.out; have := HK2.out; omega⟩, by repeat (first | exact as_.refl _ | apply as_.step)⟩
   subst c8
   have H1 : (some false) = some r := by rw [if_pos rfl] at H; exact H
   clear H
   have H := H1
   clear H1
   obtain rfl := Option.some.inj H
   go_wp2
   go_ret
   exact ⟨by first | rfl | (simp; done) | (simp [*]; done), by repeat (first | exact as_.refl _ | apply as_.step)⟩
def bx_.l0 : Nat → List (S81) → Int → Int → Option (Int)
 | 0, _, _, _ => none
 | k + 1, x0, x3, x4 => if x4 < (x0.length : Int) then (if (x0.length : Int) = 0 then (none) else (if 0 ≤ (Int.tmod (wrap64 (x4 + 1)) (x0.length : Int)) then (if (Int.tmod (wrap64 (x4 + 1)) (x0.length : Int)) < (x0.length : Int) then (if 0 ≤ x4 then (bx_.l0 k x0 (wrap64 (x3 + (wrap64 ((wrap64 (((ab_ x0 x4).f0) * ((ab_ x0 (Int.tmod (wrap64 (x4 + 1)) (x0.length : Int))).f1))) - (wrap64 (((ab_ x0 x4).f1) * ((ab_ x0 (Int.tmod (wrap64 (x4 + 1)) (x0.length : Int))).f0))))))) (wrap64 (x4 + 1))) else (none)) else (none)) else (none))) else (some x3)
def bx_.f (k : Nat) (l0 : List (S81)) : Option (Int) := bx_.l0 k l0 0 0
set_option maxHeartbeats 8000000 in
set_option maxRecDepth 100000 in
theorem bx_.calls (k : Nat) (A0 : Option Addr) (c0 : Nat) (l0 : List (S81)) (r : Int) (w : World) (hr0 : Kd.C k81 w A0 l0.length l0) (hc0 : l0.length ≤ c0) (h : bx_.f k l0 = some r) :
  Calls Try.prog 29 #[.slice A0 l0.length c0] w fun e w' => e = .returned (.int .i64 r) ∧ Below w.heap.size w w' := by
 have hu81 := Try.underlying81
 have HR0 := Aside0.mk hr0
 have HC0 := Aside0.mk hc0
 clear hr0 hc0
 have HB := Aside0.mk (Below.refl w.heap.size w)
 have H : (bx_.l0 k l0 0 0) = some r := h
 clear h
 have H' := Aside0.mk H
 clear H
 go_enter Try.func29, Try.ntmps29
 go_wp2
 repeat (go_quiet (fail); try go_wp2)
 (try simp only [Act.put, lsa_, ls0_, ls1_])
 go_loopg [3, 4] k (fun kq v3 v4 w' => ∃ (x3_1 : Int) (x4_1 : Int), v3 = .int .i64 x3_1 ∧ v4 = .int .i64 x4_1 ∧ Aside0 (bx_.l0 kq l0 x3_1 x4_1 = some r) ∧ Aside0 (kq ≤ k) ∧ Aside0 (Below w.heap.size w w'))
 case atStart => exact ⟨(0), (0), (by first | rfl | (simp; done) | (simp [*]; done)), (by first | rfl | (simp; done) | (simp [*]; done)), H', ⟨Nat.le_refl _⟩, ⟨bz HB.out⟩⟩
 case round =>
  clear H'
  obtain ⟨x3_1, x4_1, rfl, rfl, HA, HK1, HB⟩ := hrel
  cases gk with
  | zero => exact absurd HA.out (by simp [bx_.l0])
  | succ k1 =>
   have H := HA.out
   clear HA
   simp only [bx_.l0] at H
   by_cases c2 : x4_1 < (l0.length : Int)
   rotate_left
   ·rw [if_neg c2] at H
    have c2b0 : decide (x4_1 < (l0.length : Int)) = false := decide_eq_false c2
    clear c2
    obtain rfl := Option.some.inj H
    go_wp2
    repeat (go_quiet (fail); try go_wp2)
    go_ret
    exact ⟨by first | rfl | (simp [*, ah_, ai_] <;> rfl), bz HB.out⟩
   rw [if_pos c2] at H
   have c2b0 : decide (x4_1 < (l0.length : Int)) = true := decide_eq_true c2
   clear c2
   by_cases c3 : (l0.length : Int) = 0
   rotate_left
   ·rw [if_neg c3] at H
    have c3b0 : ((l0.length : Int) == 0) = false := beq_eq_false_iff_ne.mpr c3
    have c3b1 : ((l0.length : Int) != 0) = true := bne_iff_ne.mpr c3
    have c3b2 : ¬ (l0 = []) := fun h_ => c3 (by rw [h_]; rfl)
    obtain ⟨ji4, hji4⟩ : ∃ j_ : Int, (Int.tmod (wrap64 (x4_1 + 1)) (l0.length : Int)) = j_ := ⟨_, rfl⟩
    replace H : (if 0 ≤ (ji4) then (if (ji4) < (l0.length : Int) then (if 0 ≤ x4_1 then (bx_.l0 k1 l0 (wrap64 (x3_1 + (wrap64 ((wrap64 (((ab_ l0 x4_1).f0) * ((ab_ l0 (ji4)).f1))) - (wrap64 (((ab_ l0 x4_1).f1) * ((ab_ l0 (ji4)).f0))))))) (wrap64 (x4_1 + 1))) else (none)) else (none)) else (none)) = some r := by first | (rw [hji4] at H; exact H) | (simp only [hji4] at H ⊢; exact H)
    by_cases c5 : 0 ≤ (ji4)
    rotate_left
    ·rw [if_neg c5] at H
     exact absurd H (by simp)
    rw [if_pos c5] at H
    have c5b0 : decide (0 ≤ (ji4)) = true := decide_eq_true c5
    clear c5
    by_cases c6 : (ji4) < (l0.length : Int)
    rotate_left
    ·rw [if_neg c6] at H
     exact absurd H (by simp)
    rw [if_pos c6] at H
    have c6b0 : decide ((ji4) < (l0.length : Int)) = true := decide_eq_true c6
    clear c6
    by_cases c7 : 0 ≤ x4_1
    rotate_left
    ·rw [if_neg c7] at H
     exact absurd H (by simp)
    rw [if_pos c7] at H
    have c7b0 : decide (0 ≤ x4_1) = true := decide_eq_true c7
    clear c7
    have H' := Aside0.mk H
    clear H
    have p101 : 0 ≤ ((ji4) : Int) := of_decide_eq_true (by assumption)
    have q101 : (ji4) < (l0.length : Int) := of_decide_eq_true (by assumption)
    obtain ⟨ad101, e101, hx101_0, hx101_1⟩ := bX_ HR0.out (ji4) p101 q101
    cases e101
    replace hx101_0 := bu_ HB.out hx101_0
    replace hx101_1 := bu_ HB.out hx101_1
    replace p101 := eq_true p101
    replace q101 := eq_true q101
    go_wp2_with (first | ((with_reducible refine al_ (N := 5) rfl ?_); refine ak_ ?hg (N := 5) ?hd (cs := #[.int .i64 0, .int .i64 0]) (t := 81) ?hr ?_; (case hd => rfl); (case hg => rfl); (case hr => (go_simp; try rfl)); intro gb102 hg w8 hbox hb; have BK102 := Aside0.mk (hbox); have GW102 := Aside0.mk ((by rw [hg]; exact (ae_ (bz HB.out)) : w.heap.size ≤ gb102)); have GE102 := GW102; replace HB := Aside0.mk (ad_ (bz HB.out) hb); clear hb hbox hg; obtain ⟨hcz9_0, hcz9_1⟩ := cz2_ BK102.out; obtain ⟨hfz9_0, hfz9_1⟩ := fz2_ BK102.out; have p103 : 0 ≤ (x4_1 : Int) := of_decide_eq_true (by assumption); have q103 : x4_1 < (l0.length : Int) := of_decide_eq_true (by assumption); obtain ⟨ad103, e103, hx103_0, hx103_1⟩ := bX_ HR0.out x4_1 p103 q103; obtain rfl : ad101 = ad103 := (by injection e103); have hn103_0 : ad101.block ≠ gb102 := Nat.ne_of_lt (Nat.lt_of_lt_of_le (by have := bl_ _ _ hx103_0; first | rwa [add_block] at this | exact this) GW102.out); have hn103_1 : ad101.block ≠ gb102 := Nat.ne_of_lt (Nat.lt_of_lt_of_le (by have := bl_ _ _ hx103_0; first | rwa [add_block] at this | exact this) GW102.out); replace hx103_0 := bu_ HB.out hx103_0; replace hx103_1 := bu_ HB.out hx103_1; replace hx103_0 := (cell_far (p := ⟨gb102, 0, none⟩) (by first | (rw [add_block]; exact hn103_0) | (show (Addr.add _ _).block ≠ _; rw [add_block]; exact hn103_0) | exact hn103_0) (.int .i64 ((ab_ l0 (ji4)).f0))).trans hx103_0; replace hx103_1 := (cell_far (p := ⟨gb102, 0, none⟩) (by first | (rw [add_block]; exact hn103_0) | (show (Addr.add _ _).block ≠ _; rw [add_block]; exact hn103_0) | exact hn103_0) (.int .i64 ((ab_ l0 (ji4)).f0))).trans hx103_1; replace hx103_0 := (cell_far (p := ⟨gb102, 1, none⟩) (by first | (rw [add_block]; exact hn103_1) | (show (Addr.add _ _).block ≠ _; rw [add_block]; exact hn103_1) | exact hn103_1) (.int .i64 ((ab_ l0 (ji4)).f1))).trans hx103_0; replace hx103_1 := (cell_far (p := ⟨gb102, 1, none⟩) (by first | (rw [add_block]; exact hn103_1) | (show (Addr.add _ _).block ≠ _; rw [add_block]; exact hn103_1) | exact hn103_1) (.int .i64 ((ab_ l0 (ji4)).f1))).trans hx103_1; (try have hy103_0 := fun (n_ : Nat) => (show ((((w8.drewN n_).setCell ⟨gb102, 0, none⟩ (.int .i64 ((ab_ l0 (ji4)).f0))).setCell ⟨gb102, 1, none⟩ (.int .i64 ((ab_ l0 (ji4)).f1)))).cell? _ = some _ from hx103_0)); (try have hy103_1 := fun (n_ : Nat) => (show ((((w8.drewN n_).setCell ⟨gb102, 0, none⟩ (.int .i64 ((ab_ l0 (ji4)).f0))).setCell ⟨gb102, 1, none⟩ (.int .i64 ((ab_ l0 (ji4)).f1)))).cell? _ = some _ from hx103_1)); clear hn103_0; clear hn103_1; replace p103 := eq_true p103; replace q103 := eq_true q103; have p104 : 0 ≤ (x4_1 : Int) := of_decide_eq_true (by assumption); have q104 : x4_1 < (l0.length : Int) := of_decide_eq_true (by assumption); obtain ⟨ad104, e104, hx104_0, hx104_1⟩ := bX_ HR0.out x4_1 p104 q104; obtain rfl : ad101 = ad104 := (by injection e104); have hn104_0 : ad101.block ≠ gb102 := Nat.ne_of_lt (Nat.lt_of_lt_of_le (by have := bl_ _ _ hx104_0; first | rwa [add_block] at this | exact this) GW102.out); have hn104_1 : ad101.block ≠ gb102 := Nat.ne_of_lt (Nat.lt_of_lt_of_le (by have := bl_ _ _ hx104_0; first | rwa [add_block] at this | exact this) GW102.out); replace hx104_0 := bu_ HB.out hx104_0; replace hx104_1 := bu_ HB.out hx104_1; replace hx104_0 := (cell_far (p := ⟨gb102, 0, none⟩) (by first | (rw [add_block]; exact hn104_0) | (show (Addr.add _ _).block ≠ _; rw [add_block]; exact hn104_0) | exact hn104_0) (.int .i64 ((ab_ l0 (ji4)).f0))).trans hx104_0; replace hx104_1 := (cell_far (p := ⟨gb102, 0, none⟩) (by first | (rw [add_block]; exact hn104_0) | (show (Addr.add _ _).block ≠ _; rw [add_block]; exact hn104_0) | exact hn104_0) (.int .i64 ((ab_ l0 (ji4)).f0))).trans hx104_1; replace hx104_0 := (cell_far (p := ⟨gb102, 1, none⟩) (by first | (rw [add_block]; exact hn104_1) | (show (Addr.add _ _).block ≠ _; rw [add_block]; exact hn104_1) | exact hn104_1) (.int .i64 ((ab_ l0 (ji4)).f1))).trans hx104_0; replace hx104_1 := (cell_far (p := ⟨gb102, 1, none⟩) (by first | (rw [add_block]; exact hn104_1) | (show (Addr.add _ _).block ≠ _; rw [add_block]; exact hn104_1) | exact hn104_1) (.int .i64 ((ab_ l0 (ji4)).f1))).trans hx104_1; (try have hy104_0 := fun (n_ : Nat) => (show ((((w8.drewN n_).setCell ⟨gb102, 0, none⟩ (.int .i64 ((ab_ l0 (ji4)).f0))).setCell ⟨gb102, 1, none⟩ (.int .i64 ((ab_ l0 (ji4)).f1)))).cell? _ = some _ from hx104_0)); (try have hy104_1 := fun (n_ : Nat) => (show ((((w8.drewN n_).setCell ⟨gb102, 0, none⟩ (.int .i64 ((ab_ l0 (ji4)).f0))).setCell ⟨gb102, 1, none⟩ (.int .i64 ((ab_ l0 (ji4)).f1)))).cell? _ = some _ from hx104_1)); clear hn104_0; clear hn104_1; replace p104 := eq_true p104; replace q104 := eq_true q104))
    repeat (go_quiet (first | ((with_reducible refine al_ (N := 5) rfl ?_); refine ak_ ?hg (N := 5) ?hd (cs := #[.int .i64 0, .int .i64 0]) (t := 81) ?hr ?_; (case hd => rfl); (case hg => rfl); (case hr => (go_simp; try rfl)); intro gb102 hg w8 hbox hb; have BK102 := Aside0.mk (hbox); have GW102 := Aside0.mk ((by rw [hg]; exact (ae_ (bz HB.out)) : w.heap.size ≤ gb102)); have GE102 := GW102; replace HB := Aside0.mk (ad_ (bz HB.out) hb); clear hb hbox hg; obtain ⟨hcz9_0, hcz9_1⟩ := cz2_ BK102.out; obtain ⟨hfz9_0, hfz9_1⟩ := fz2_ BK102.out; have p103 : 0 ≤ (x4_1 : Int) := of_decide_eq_true (by assumption); have q103 : x4_1 < (l0.length : Int) := of_decide_eq_true (by assumption); obtain ⟨ad103, e103, hx103_0, hx103_1⟩ := bX_ HR0.out x4_1 p103 q103; obtain rfl : ad101 = ad103 := (by injection e103); have hn103_0 : ad101.block ≠ gb102 := Nat.ne_of_lt (Nat.lt_of_lt_of_le (by have := bl_ _ _ hx103_0; first | rwa [add_block] at this | exact this) GW102.out); have hn103_1 : ad101.block ≠ gb102 := Nat.ne_of_lt (Nat.lt_of_lt_of_le (by have := bl_ _ _ hx103_0; first | rwa [add_block] at this | exact this) GW102.out); replace hx103_0 := bu_ HB.out hx103_0; replace hx103_1 := bu_ HB.out hx103_1; replace hx103_0 := (cell_far (p := ⟨gb102, 0, none⟩) (by first | (rw [add_block]; exact hn103_0) | (show (Addr.add _ _).block ≠ _; rw [add_block]; exact hn103_0) | exact hn103_0) (.int .i64 ((ab_ l0 (ji4)).f0))).trans hx103_0; replace hx103_1 := (cell_far (p := ⟨gb102, 0, none⟩) (by first | (rw [add_block]; exact hn103_0) | (show (Addr.add _ _).block ≠ _; rw [add_block]; exact hn103_0) | exact hn103_0) (.int .i64 ((ab_ l0 (ji4)).f0))).trans hx103_1; replace hx103_0 := (cell_far (p := ⟨gb102, 1, none⟩) (by first | (rw [add_block]; exact hn103_1) | (show (Addr.add _ _).block ≠ _; rw [add_block]; exact hn103_1) | exact hn103_1) (.int .i64 ((ab_ l0 (ji4)).f1))).trans hx103_0; replace hx103_1 := (cell_far (p := ⟨gb102, 1, none⟩) (by first | (rw [add_block]; exact hn103_1) | (show (Addr.add _ _).block ≠ _; rw [add_block]; exact hn103_1) | exact hn103_1) (.int .i64 ((ab_ l0 (ji4)).f1))).trans hx103_1; (try have hy103_0 := fun (n_ : Nat) => (show ((((w8.drewN n_).setCell ⟨gb102, 0, none⟩ (.int .i64 ((ab_ l0 (ji4)).f0))).setCell ⟨gb102, 1, none⟩ (.int .i64 ((ab_ l0 (ji4)).f1)))).cell? _ = some _ from hx103_0)); (try have hy103_1 := fun (n_ : Nat) => (show ((((w8.drewN n_).setCell ⟨gb102, 0, none⟩ (.int .i64 ((ab_ l0 (ji4)).f0))).setCell ⟨gb102, 1, none⟩ (.int .i64 ((ab_ l0 (ji4)).f1)))).cell? _ = some _ from hx103_1)); clear hn103_0; clear hn103_1; replace p103 := eq_true p103; replace q103 := eq_true q103; have p104 : 0 ≤ (x4_1 : Int) := of_decide_eq_true (by assumption); have q104 : x4_1 < (l0.length : Int) := of_decide_eq_true (by assumption); obtain ⟨ad104, e104, hx104_0, hx104_1⟩ := bX_ HR0.out x4_1 p104 q104; obtain rfl : ad101 = ad104 := (by injection e104); have hn104_0 : ad101.block ≠ gb102 := Nat.ne_of_lt (Nat.lt_of_lt_of_le (by have := bl_ _ _ hx104_0; first | rwa [add_block] at this | exact this) GW102.out); have hn104_1 : ad101.block ≠ gb102 := Nat.ne_of_lt (Nat.lt_of_lt_of_le (by have := bl_ _ _ hx104_0; first | rwa [add_block] at this | exact this) GW102.out); replace hx104_0 := bu_ HB.out hx104_0; replace hx104_1 := bu_ HB.out hx104_1; replace hx104_0 := (cell_far (p := ⟨gb102, 0, none⟩) (by first | (rw [add_block]; exact hn104_0) | (show (Addr.add _ _).block ≠ _; rw [add_block]; exact hn104_0) | exact hn104_0) (.int .i64 ((ab_ l0 (ji4)).f0))).trans hx104_0; replace hx104_1 := (cell_far (p := ⟨gb102, 0, none⟩) (by first | (rw [add_block]; exact hn104_0) | (show (Addr.add _ _).block ≠ _; rw [add_block]; exact hn104_0) | exact hn104_0) (.int .i64 ((ab_ l0 (ji4)).f0))).trans hx104_1; replace hx104_0 := (cell_far (p := ⟨gb102, 1, none⟩) (by first | (rw [add_block]; exact hn104_1) | (show (Addr.add _ _).block ≠ _; rw [add_block]; exact hn104_1) | exact hn104_1) (.int .i64 ((ab_ l0 (ji4)).f1))).trans hx104_0; replace hx104_1 := (cell_far (p := ⟨gb102, 1, none⟩) (by first | (rw [add_block]; exact hn104_1) | (show (Addr.add _ _).block ≠ _; rw [add_block]; exact hn104_1) | exact hn104_1) (.int .i64 ((ab_ l0 (ji4)).f1))).trans hx104_1; (try have hy104_0 := fun (n_ : Nat) => (show ((((w8.drewN n_).setCell ⟨gb102, 0, none⟩ (.int .i64 ((ab_ l0 (ji4)).f0))).setCell ⟨gb102, 1, none⟩ (.int .i64 ((ab_ l0 (ji4)).f1)))).cell? _ = some _ from hx104_0)); (try have hy104_1 := fun (n_ : Nat) => (show ((((w8.drewN n_).setCell ⟨gb102, 0, none⟩ (.int .i64 ((ab_ l0 (ji4)).f0))).setCell ⟨gb102, 1, none⟩ (.int .i64 ((ab_ l0 (ji4)).f1)))).cell? _ = some _ from hx104_1)); clear hn104_0; clear hn104_1; replace p104 := eq_true p104; replace q104 := eq_true q104)); try go_wp2_with (first | ((with_reducible refine al_ (N := 5) rfl ?_); refine ak_ ?hg (N := 5) ?hd (cs := #[.int .i64 0, .int .i64 0]) (t := 81) ?hr ?_; (case hd => rfl); (case hg => rfl); (case hr => (go_simp; try rfl)); intro gb102 hg w8 hbox hb; have BK102 := Aside0.mk (hbox); have GW102 := Aside0.mk ((by rw [hg]; exact (ae_ (bz HB.out)) : w.heap.size ≤ gb102)); have GE102 := GW102; replace HB := Aside0.mk (ad_ (bz HB.out) hb); clear hb hbox hg; obtain ⟨hcz9_0, hcz9_1⟩ := cz2_ BK102.out; obtain ⟨hfz9_0, hfz9_1⟩ := fz2_ BK102.out; have p103 : 0 ≤ (x4_1 : Int) := of_decide_eq_true (by assumption); have q103 : x4_1 < (l0.length : Int) := of_decide_eq_true (by assumption); obtain ⟨ad103, e103, hx103_0, hx103_1⟩ := bX_ HR0.out x4_1 p103 q103; obtain rfl : ad101 = ad103 := (by injection e103); have hn103_0 : ad101.block ≠ gb102 := Nat.ne_of_lt (Nat.lt_of_lt_of_le (by have := bl_ _ _ hx103_0; first | rwa [add_block] at this | exact this) GW102.out); have hn103_1 : ad101.block ≠ gb102 := Nat.ne_of_lt (Nat.lt_of_lt_of_le (by have := bl_ _ _ hx103_0; first | rwa [add_block] at this | exact this) GW102.out); replace hx103_0 := bu_ HB.out hx103_0; replace hx103_1 := bu_ HB.out hx103_1; replace hx103_0 := (cell_far (p := ⟨gb102, 0, none⟩) (by first | (rw [add_block]; exact hn103_0) | (show (Addr.add _ _).block ≠ _; rw [add_block]; exact hn103_0) | exact hn103_0) (.int .i64 ((ab_ l0 (ji4)).f0))).trans hx103_0; replace hx103_1 := (cell_far (p := ⟨gb102, 0, none⟩) (by first | (rw [add_block]; exact hn103_0) | (show (Addr.add _ _).block ≠ _; rw [add_block]; exact hn103_0) | exact hn103_0) (.int .i64 ((ab_ l0 (ji4)).f0))).trans hx103_1; replace hx103_0 := (cell_far (p := ⟨gb102, 1, none⟩) (by first | (rw [add_block]; exact hn103_1) | (show (Addr.add _ _).block ≠ _; rw [add_block]; exact hn103_1) | exact hn103_1) (.int .i64 ((ab_ l0 (ji4)).f1))).trans hx103_0; replace hx103_1 := (cell_far (p := ⟨gb102, 1, none⟩) (by first | (rw [add_block]; exact hn103_1) | (show (Addr.add _ _).block ≠ _; rw [add_block]; exact hn103_1) | exact hn103_1) (.int .i64 ((ab_ l0 (ji4)).f1))).trans hx103_1; (try have hy103_0 := fun (n_ : Nat) => (show ((((w8.drewN n_).setCell ⟨gb102, 0, none⟩ (.int .i64 ((ab_ l0 (ji4)).f0))).setCell ⟨gb102, 1, none⟩ (.int .i64 ((ab_ l0 (ji4)).f1)))).cell? _ = some _ from hx103_0)); (try have hy103_1 := fun (n_ : Nat) => (show ((((w8.drewN n_).setCell ⟨gb102, 0, none⟩ (.int .i64 ((ab_ l0 (ji4)).f0))).setCell ⟨gb102, 1, none⟩ (.int .i64 ((ab_ l0 (ji4)).f1)))).cell? _ = some _ from hx103_1)); clear hn103_0; clear hn103_1; replace p103 := eq_true p103; replace q103 := eq_true q103; have p104 : 0 ≤ (x4_1 : Int) := of_decide_eq_true (by assumption); have q104 : x4_1 < (l0.length : Int) := of_decide_eq_true (by assumption); obtain ⟨ad104, e104, hx104_0, hx104_1⟩ := bX_ HR0.out x4_1 p104 q104; obtain rfl : ad101 = ad104 := (by injection e104); have hn104_0 : ad101.block ≠ gb102 := Nat.ne_of_lt (Nat.lt_of_lt_of_le (by have := bl_ _ _ hx104_0; first | rwa [add_block] at this | exact this) GW102.out); have hn104_1 : ad101.block ≠ gb102 := Nat.ne_of_lt (Nat.lt_of_lt_of_le (by have := bl_ _ _ hx104_0; first | rwa [add_block] at this | exact this) GW102.out); replace hx104_0 := bu_ HB.out hx104_0; replace hx104_1 := bu_ HB.out hx104_1; replace hx104_0 := (cell_far (p := ⟨gb102, 0, none⟩) (by first | (rw [add_block]; exact hn104_0) | (show (Addr.add _ _).block ≠ _; rw [add_block]; exact hn104_0) | exact hn104_0) (.int .i64 ((ab_ l0 (ji4)).f0))).trans hx104_0; replace hx104_1 := (cell_far (p := ⟨gb102, 0, none⟩) (by first | (rw [add_block]; exact hn104_0) | (show (Addr.add _ _).block ≠ _; rw [add_block]; exact hn104_0) | exact hn104_0) (.int .i64 ((ab_ l0 (ji4)).f0))).trans hx104_1; replace hx104_0 := (cell_far (p := ⟨gb102, 1, none⟩) (by first | (rw [add_block]; exact hn104_1) | (show (Addr.add _ _).block ≠ _; rw [add_block]; exact hn104_1) | exact hn104_1) (.int .i64 ((ab_ l0 (ji4)).f1))).trans hx104_0; replace hx104_1 := (cell_far (p := ⟨gb102, 1, none⟩) (by first | (rw [add_block]; exact hn104_1) | (show (Addr.add _ _).block ≠ _; rw [add_block]; exact hn104_1) | exact hn104_1) (.int .i64 ((ab_ l0 (ji4)).f1))).trans hx104_1; (try have hy104_0 := fun (n_ : Nat) => (show ((((w8.drewN n_).setCell ⟨gb102, 0, none⟩ (.int .i64 ((ab_ l0 (ji4)).f0))).setCell ⟨gb102, 1, none⟩ (.int .i64 ((ab_ l0 (ji4)).f1)))).cell? _ = some _ from hx104_0)); (try have hy104_1 := fun (n_ : Nat) => (show ((((w8.drewN n_).setCell ⟨gb102, 0, none⟩ (.int .i64 ((ab_ l0 (ji4)).f0))).setCell ⟨gb102, 1, none⟩ (.int .i64 ((ab_ l0 (ji4)).f1)))).cell? _ = some _ from hx104_1)); clear hn104_0; clear hn104_1; replace p104 := eq_true p104; replace q104 := eq_true q104)))
    go_roundg k1
    case measure => have := HK1.out; omega
    case rel => exact ⟨(wrap64 (x3_1 + (wrap64 ((wrap64 (((ab_ l0 x4_1).f0) * ((ab_ l0 (ji4)).f1))) - (wrap64 (((ab_ l0 x4_1).f1) * ((ab_ l0 (ji4)).f0))))))), (wrap64 (x4_1 + 1)), (by first | rfl | (simp; done) | (simp only [← hji4] <;> (first | rfl | simp)) | (simp [*]; done)), (by first | rfl | (simp; done) | (simp [*]; done)), H', ⟨by have := HK1.out; omega⟩, ⟨bq⟩⟩
   rw [if_pos c3] at H
   exact absurd H (by simp)
def spec_l02Ok.f (a0_0 : Int) (a0_1 : Int) : Option (Bool) := (ao_.f a0_0 0 20000).bind fun t102 => (if t102 = true then ((ao_.f a0_1 0 20000).bind fun t103 => (some t103)) else (some false))
set_option maxHeartbeats 8000000 in
set_option maxRecDepth 100000 in
theorem spec_l02Ok.calls (a0_0 : Int) (a0_1 : Int) (r : Bool) (w : World) (h : spec_l02Ok.f a0_0 a0_1 = some r) :
  Calls Try.prog 75 #[.agg #[.int .i64 a0_0, .int .i64 a0_1]] w fun e w' => e = .returned (.bool r) ∧ Below w.heap.size w w' := by
 have hu81 := Try.underlying81
 have HB := Aside0.mk (Below.refl w.heap.size w)
 have H : ((ao_.f a0_0 0 20000).bind fun t102 => (if t102 = true then ((ao_.f a0_1 0 20000).bind fun t103 => (some t103)) else (some false))) = some r := h
 clear h
 replace H := Option.bind_eq_some_iff.mp H
 obtain ⟨t102, A20, H⟩ := H
 (try dsimp only at H)
 have A2 := Aside0.mk A20
 clear A20
 by_cases c3 : t102 = true
 rotate_left
 ·replace c3 := Bool.eq_false_iff.mpr c3
  subst c3
  have H1 : (some false) = some r := by rw [if_neg (show ¬ (false = true) by decide)] at H; exact H
  clear H
  have H := H1
  clear H1
  obtain rfl := Option.some.inj H
  go_enter Try.func75, Try.ntmps75
  go_wp2_with (first | ((with_reducible refine al_ (N := 1) rfl ?_); refine ak_ ?hg (N := 1) ?hd (cs := #[.int .i64 a0_0, .int .i64 a0_1]) (t := 81) ?hr ?_; (case hd => rfl); (case hg => rfl); (case hr => (go_simp; try rfl)); intro gb101 hg w7 hbox hb; have BK101 := Aside0.mk (hbox); have GW101 := Aside0.mk ((by rw [hg]; exact (ae_ (bz HB.out)) : w.heap.size ≤ gb101)); have GE101 := GW101; replace HB := Aside0.mk (ad_ (bz HB.out) hb); clear hb hbox hg; obtain ⟨hcz8_0, hcz8_1⟩ := cz2_ BK101.out; obtain ⟨hfz8_0, hfz8_1⟩ := fz2_ BK101.out) | ((with_reducible refine an_ (f := 47) rfl ?_); refine aU_ (some 5) rfl rfl Try.func47 (by kernel_rfl) rfl #[.int .i64 a0_0, .int .i64 0, .int .i64 20000] rfl (by first | rfl | (simp only [lma_, lmc_, lmn_]; first | done | rfl)) ?_; (with_reducible refine (ao_.calls a0_0 0 20000 false _ A2.out).mono ?_); rintro e w' ⟨rfl, ⟨nd, rfl⟩⟩; refine ⟨_, rfl, ?_⟩))
  go_ret
  exact ⟨by first | rfl | (simp [*, ah_, ai_] <;> rfl), bq⟩
 subst c3
 have H1 : ((ao_.f a0_1 0 20000).bind fun t103 => (some t103)) = some r := by rw [if_pos rfl] at H; exact H
 clear H
 have H := H1
 clear H1
 replace H := Option.bind_eq_some_iff.mp H
 obtain ⟨t103, A40, H⟩ := H
 (try dsimp only at H)
 have A4 := Aside0.mk A40
 clear A40
 obtain rfl := Option.some.inj H
 go_enter Try.func75, Try.ntmps75
 go_wp2_with (first | ((with_reducible refine al_ (N := 1) rfl ?_); refine ak_ ?hg (N := 1) ?hd (cs := #[.int .i64 a0_0, .int .i64 a0_1]) (t := 81) ?hr ?_; (case hd => rfl); (case hg => rfl); (case hr => (go_simp; try rfl)); intro gb101 hg w5 hbox hb; have BK101 := Aside0.mk (hbox); have GW101 := Aside0.mk ((by rw [hg]; exact (ae_ (bz HB.out)) : w.heap.size ≤ gb101)); have GE101 := GW101; replace HB := Aside0.mk (ad_ (bz HB.out) hb); clear hb hbox hg; obtain ⟨hcz6_0, hcz6_1⟩ := cz2_ BK101.out; obtain ⟨hfz6_0, hfz6_1⟩ := fz2_ BK101.out) | ((with_reducible refine an_ (f := 47) rfl ?_); refine aU_ (some 5) rfl rfl Try.func47 (by kernel_rfl) rfl #[.int .i64 a0_0, .int .i64 0, .int .i64 20000] rfl (by first | rfl | (simp only [lma_, lmc_, lmn_]; first | done | rfl)) ?_; (with_reducible refine (ao_.calls a0_0 0 20000 true _ A2.out).mono ?_); rintro e w' ⟨rfl, ⟨nd, rfl⟩⟩; refine ⟨_, rfl, ?_⟩) | (go_at_call 47; (with_reducible refine (ao_.calls a0_1 0 20000 t103 _ A4.out).mono ?_); rintro e w' ⟨rfl, ⟨nd, rfl⟩⟩))
 go_ret
 exact ⟨by first | rfl | (simp [*, ah_, ai_] <;> rfl), bq⟩
def cT_.f (a0_0 : Int) (a0_1 : Int) (a1_0 : Int) (a1_1 : Int) (a2_0 : Int) (a2_1 : Int) : Option (Int) := some (wrap64 ((wrap64 ((wrap64 (a1_0 - a0_0)) * (wrap64 (a2_1 - a0_1)))) - (wrap64 ((wrap64 (a1_1 - a0_1)) * (wrap64 (a2_0 - a0_0))))))
set_option maxHeartbeats 8000000 in
set_option maxRecDepth 100000 in
theorem cT_.calls (a0_0 : Int) (a0_1 : Int) (a1_0 : Int) (a1_1 : Int) (a2_0 : Int) (a2_1 : Int) (r : Int) (w : World) (h : cT_.f a0_0 a0_1 a1_0 a1_1 a2_0 a2_1 = some r) :
  Calls Try.prog 88 #[.agg #[.int .i64 a0_0, .int .i64 a0_1], .agg #[.int .i64 a1_0, .int .i64 a1_1], .agg #[.int .i64 a2_0, .int .i64 a2_1]] w fun e w' => e = .returned (.int .i64 r) ∧ Below w.heap.size w w' := by
 have hu81 := Try.underlying81
 have HB := Aside0.mk (Below.refl w.heap.size w)
 have H : (some (wrap64 ((wrap64 ((wrap64 (a1_0 - a0_0)) * (wrap64 (a2_1 - a0_1)))) - (wrap64 ((wrap64 (a1_1 - a0_1)) * (wrap64 (a2_0 - a0_0))))))) = some r := h
 clear h
 obtain rfl := Option.some.inj H
 go_enter Try.func88, Try.ntmps88
 go_wp2_with (first | ((with_reducible refine al_ (N := 3) rfl ?_); refine ak_ ?hg (N := 3) ?hd (cs := #[.int .i64 a0_0, .int .i64 a0_1]) (t := 81) ?hr ?_; (case hd => rfl); (case hg => rfl); (case hr => (go_simp; try rfl)); intro gb101 hg w4 hbox hb; have BK101 := Aside0.mk (hbox); have GW101 := Aside0.mk ((by rw [hg]; exact (ae_ (bz HB.out)) : w.heap.size ≤ gb101)); have GE101 := GW101; replace HB := Aside0.mk (ad_ (bz HB.out) hb); clear hb hbox hg) | ((with_reducible refine al_ (N := 4) rfl ?_); refine ak_ ?hg (N := 4) ?hd (cs := #[.int .i64 a1_0, .int .i64 a1_1]) (t := 81) ?hr ?_; (case hd => rfl); (case hg => rfl); (case hr => (go_simp; try rfl)); intro gb102 hg w5 hbox hb; have BK102 := Aside0.mk (hbox); have GW102 := Aside0.mk ((by rw [hg]; exact (ae_ (bq)) : w.heap.size ≤ gb102)); have GE102 := GW102; replace HB := Aside0.mk (ad_ (bq) hb); have NB101_102 := Aside0.mk ((by rw [hg]; exact Nat.ne_of_lt (aj_ (kz BK101.out)) : gb101 ≠ gb102)); have NB102_101 := Aside0.mk ((by rw [hg]; exact Nat.ne_of_gt (aj_ (kz BK101.out)) : gb102 ≠ gb101)); replace BK101 := Aside0.mk (aa_ (kz BK101.out) hb); clear hb hbox hg) | ((with_reducible refine al_ (N := 5) rfl ?_); refine ak_ ?hg (N := 5) ?hd (cs := #[.int .i64 a2_0, .int .i64 a2_1]) (t := 81) ?hr ?_; (case hd => rfl); (case hg => rfl); (case hr => (go_simp; try rfl)); intro gb103 hg w6 hbox hb; have BK103 := Aside0.mk (hbox); have GW103 := Aside0.mk ((by rw [hg]; exact (ae_ (bq)) : w.heap.size ≤ gb103)); have GE103 := GW103; replace HB := Aside0.mk (ad_ (bq) hb); have NB101_103 := Aside0.mk ((by rw [hg]; exact Nat.ne_of_lt (aj_ (kz BK101.out)) : gb101 ≠ gb103)); have NB103_101 := Aside0.mk ((by rw [hg]; exact Nat.ne_of_gt (aj_ (kz BK101.out)) : gb103 ≠ gb101)); replace BK101 := Aside0.mk (aa_ (kz BK101.out) hb); have NB102_103 := Aside0.mk ((by rw [hg]; exact Nat.ne_of_lt (aj_ (kz BK102.out)) : gb102 ≠ gb103)); have NB103_102 := Aside0.mk ((by rw [hg]; exact Nat.ne_of_gt (aj_ (kz BK102.out)) : gb103 ≠ gb102)); replace BK102 := Aside0.mk (aa_ (kz BK102.out) hb); clear hb hbox hg; have hnb7 := NB102_101.out; have hnc7 := NB101_102.out; have hnb8 := NB102_103.out; have hnc8 := NB103_102.out; obtain ⟨hcz9_0, hcz9_1⟩ := cz2_ BK102.out; obtain ⟨hfz9_0, hfz9_1⟩ := fz2_ BK102.out; have hnb10 := NB101_103.out; have hnc10 := NB103_101.out; obtain ⟨hcz11_0, hcz11_1⟩ := cz2_ BK101.out; obtain ⟨hfz11_0, hfz11_1⟩ := fz2_ BK101.out; obtain ⟨hcz12_0, hcz12_1⟩ := cz2_ BK103.out; obtain ⟨hfz12_0, hfz12_1⟩ := fz2_ BK103.out))
 go_ret
 exact ⟨by first | rfl | (simp [*, ah_, ai_] <;> rfl), bq⟩
def bg_.f (a0_0 : Int) (a0_1 : Int) (a1_0 : Int) (a1_1 : Int) (a2_0 : Int) (a2_1 : Int) : Option (Int) := (cT_.f a0_0 a0_1 a1_0 a1_1 a2_0 a2_1).bind fun t104 => (if t104 > 0 then (some 1) else (if t104 < 0 then (some (-1)) else (some 0)))
set_option maxHeartbeats 8000000 in
set_option maxRecDepth 100000 in
theorem bg_.calls (a0_0 : Int) (a0_1 : Int) (a1_0 : Int) (a1_1 : Int) (a2_0 : Int) (a2_1 : Int) (r : Int) (w : World) (h : bg_.f a0_0 a0_1 a1_0 a1_1 a2_0 a2_1 = some r) :
  Calls Try.prog 84 #[.agg #[.int .i64 a0_0, .int .i64 a0_1], .agg #[.int .i64 a1_0, .int .i64 a1_1], .agg #[.int .i64 a2_0, .int .i64 a2_1]] w fun e w' => e = .returned (.int .i64 r) ∧ Below w.heap.size w w' := by
 have hu81 := Try.underlying81
 have HB := Aside0.mk (Below.refl w.heap.size w)
 have H : ((cT_.f a0_0 a0_1 a1_0 a1_1 a2_0 a2_1).bind fun t104 => (if t104 > 0 then (some 1) else (if t104 < 0 then (some (-1)) else (some 0)))) = some r := h
 clear h
 replace H := Option.bind_eq_some_iff.mp H
 obtain ⟨t104, A40, H⟩ := H
 (try dsimp only at H)
 have A4 := Aside0.mk A40
 clear A40
 have HC5 := Aside0.mk H
 clear H
 go_enter Try.func84, Try.ntmps84
 go_upto_if 13 with (first | ((with_reducible refine al_ (N := 3) rfl ?_); refine ak_ ?hg (N := 3) ?hd (cs := #[.int .i64 a0_0, .int .i64 a0_1]) (t := 81) ?hr ?_; (case hd => rfl); (case hg => rfl); (case hr => (go_simp; try rfl)); intro gb101 hg w6 hbox hb; have BK101 := Aside0.mk (hbox); have GW101 := Aside0.mk ((by rw [hg]; exact (ae_ (bz HB.out)) : w.heap.size ≤ gb101)); have GE101 := GW101; replace HB := Aside0.mk (ad_ (bz HB.out) hb); clear hb hbox hg) | ((with_reducible refine al_ (N := 4) rfl ?_); refine ak_ ?hg (N := 4) ?hd (cs := #[.int .i64 a1_0, .int .i64 a1_1]) (t := 81) ?hr ?_; (case hd => rfl); (case hg => rfl); (case hr => (go_simp; try rfl)); intro gb102 hg w7 hbox hb; have BK102 := Aside0.mk (hbox); have GW102 := Aside0.mk ((by rw [hg]; exact (ae_ (bq)) : w.heap.size ≤ gb102)); have GE102 := GW102; replace HB := Aside0.mk (ad_ (bq) hb); have NB101_102 := Aside0.mk ((by rw [hg]; exact Nat.ne_of_lt (aj_ (kz BK101.out)) : gb101 ≠ gb102)); have NB102_101 := Aside0.mk ((by rw [hg]; exact Nat.ne_of_gt (aj_ (kz BK101.out)) : gb102 ≠ gb101)); replace BK101 := Aside0.mk (aa_ (kz BK101.out) hb); clear hb hbox hg) | ((with_reducible refine al_ (N := 5) rfl ?_); refine ak_ ?hg (N := 5) ?hd (cs := #[.int .i64 a2_0, .int .i64 a2_1]) (t := 81) ?hr ?_; (case hd => rfl); (case hg => rfl); (case hr => (go_simp; try rfl)); intro gb103 hg w8 hbox hb; have BK103 := Aside0.mk (hbox); have GW103 := Aside0.mk ((by rw [hg]; exact (ae_ (bq)) : w.heap.size ≤ gb103)); have GE103 := GW103; replace HB := Aside0.mk (ad_ (bq) hb); have NB101_103 := Aside0.mk ((by rw [hg]; exact Nat.ne_of_lt (aj_ (kz BK101.out)) : gb101 ≠ gb103)); have NB103_101 := Aside0.mk ((by rw [hg]; exact Nat.ne_of_gt (aj_ (kz BK101.out)) : gb103 ≠ gb101)); replace BK101 := Aside0.mk (aa_ (kz BK101.out) hb); have NB102_103 := Aside0.mk ((by rw [hg]; exact Nat.ne_of_lt (aj_ (kz BK102.out)) : gb102 ≠ gb103)); have NB103_102 := Aside0.mk ((by rw [hg]; exact Nat.ne_of_gt (aj_ (kz BK102.out)) : gb103 ≠ gb102)); replace BK102 := Aside0.mk (aa_ (kz BK102.out) hb); clear hb hbox hg; have hnb9 := NB101_102.out; have hnc9 := NB102_101.out; have hnb10 := NB101_103.out; have hnc10 := NB103_101.out; obtain ⟨hcz11_0, hcz11_1⟩ := cz2_ BK101.out; obtain ⟨hfz11_0, hfz11_1⟩ := fz2_ BK101.out; have hnb12 := NB102_103.out; have hnc12 := NB103_102.out; obtain ⟨hcz13_0, hcz13_1⟩ := cz2_ BK102.out; obtain ⟨hfz13_0, hfz13_1⟩ := fz2_ BK102.out; obtain ⟨hcz14_0, hcz14_1⟩ := cz2_ BK103.out; obtain ⟨hfz14_0, hfz14_1⟩ := fz2_ BK103.out) | ((with_reducible refine an_ (f := 88) rfl ?_); refine aU_ (some 11) rfl rfl Try.func88 (by kernel_rfl) rfl #[.agg #[.int .i64 a0_0, .int .i64 a0_1], .agg #[.int .i64 a1_0, .int .i64 a1_1], .agg #[.int .i64 a2_0, .int .i64 a2_1]] rfl (by first | rfl | (simp only [lma_, lmc_, lmn_]; first | done | rfl)) ?_; (with_reducible refine (cT_.calls a0_0 a0_1 a1_0 a1_1 a2_0 a2_1 t104 _ A4.out).mono ?_); rintro e w15 ⟨rfl, hb⟩; refine ⟨_, rfl, ?_⟩; replace BK101 := Aside0.mk (aa_ (kz BK101.out) hb); replace BK102 := Aside0.mk (aa_ (kz BK102.out) hb); replace BK103 := Aside0.mk (aa_ (kz BK103.out) hb); replace HB := Aside0.mk (ad_ (bq) hb); (try clear hb)))
 (try simp only [Act.put, lsa_, ls0_, ls1_])
 have H := HC5.out
 clear HC5
 by_cases c16 : t104 > 0
 rotate_left
 ·rw [if_neg c16] at H
  have c16b0 : decide (0 < t104) = false := decide_eq_false c16
  clear c16
  (first | rw [c16b0] | (simp only [i64_w, i32_w]; rw [c16b0]) | (simp only [c16b1, Bool.not_true, Bool.not_false]) | (simp only [c16b0, Bool.not_true, Bool.not_false]) | skip)
  by_cases c17 : t104 < 0
  rotate_left
  ·rw [if_neg c17] at H
   have c17b0 : decide (t104 < 0) = false := decide_eq_false c17
   clear c17
   obtain rfl := Option.some.inj H
   go_wp2
   go_ret
   exact ⟨by first | rfl | (simp [*, ah_, ai_] <;> rfl), bq⟩
  rw [if_pos c17] at H
  have c17b0 : decide (t104 < 0) = true := decide_eq_true c17
  clear c17
  obtain rfl := Option.some.inj H
  go_wp2
  go_ret
  exact ⟨by first | rfl | (simp [*, ah_, ai_] <;> rfl), bq⟩
 rw [if_pos c16] at H
 have c16b0 : decide (0 < t104) = true := decide_eq_true c16
 clear c16
 (first | rw [c16b0] | (simp only [i64_w, i32_w]; rw [c16b0]) | (simp only [c16b1, Bool.not_true, Bool.not_false]) | (simp only [c16b0, Bool.not_true, Bool.not_false]) | skip)
 obtain rfl := Option.some.inj H
 go_wp2
 go_ret
 exact ⟨by first | rfl | (simp [*, ah_, ai_] <;> rfl), bq⟩
def cf_.f (a0 : Int) (a1 : Int) : Option (Int) := if a0 < a1 then (some a0) else (some a1)
set_option maxHeartbeats 8000000 in
set_option maxRecDepth 100000 in
theorem cf_.calls (a0 : Int) (a1 : Int) (r : Int) (w : World) (h : cf_.f a0 a1 = some r) :
  Calls Try.prog 85 #[.int .i64 a0, .int .i64 a1] w fun e w' => e = .returned (.int .i64 r) ∧ as_ w w' := by
 have H : (if a0 < a1 then (some a0) else (some a1)) = some r := h
 clear h
 by_cases c3 : a0 < a1
 rotate_left
 ·rw [if_neg c3] at H
  have c3b0 : decide (a0 < a1) = false := decide_eq_false c3
  clear c3
  obtain rfl := Option.some.inj H
  go_enter Try.func85, Try.ntmps85
  go_wp2
  go_ret
  exact ⟨by first | rfl | (simp; done) | (simp [*]; done), by repeat (first | exact as_.refl _ | apply as_.step)⟩
 rw [if_pos c3] at H
 have c3b0 : decide (a0 < a1) = true := decide_eq_true c3
 clear c3
 obtain rfl := Option.some.inj H
 go_enter Try.func85, Try.ntmps85
 go_wp2
 go_ret
 exact ⟨by first | rfl | (simp; done) | (simp [*]; done), by repeat (first | exact as_.refl _ | apply as_.step)⟩
def cg_.f (a0 : Int) (a1 : Int) : Option (Int) := if a0 > a1 then (some a0) else (some a1)
set_option maxHeartbeats 8000000 in
set_option maxRecDepth 100000 in
theorem cg_.calls (a0 : Int) (a1 : Int) (r : Int) (w : World) (h : cg_.f a0 a1 = some r) :
  Calls Try.prog 86 #[.int .i64 a0, .int .i64 a1] w fun e w' => e = .returned (.int .i64 r) ∧ as_ w w' := by
 have H : (if a0 > a1 then (some a0) else (some a1)) = some r := h
 clear h
 by_cases c3 : a0 > a1
 rotate_left
 ·rw [if_neg c3] at H
  have c3b0 : decide (a1 < a0) = false := decide_eq_false c3
  clear c3
  obtain rfl := Option.some.inj H
  go_enter Try.func86, Try.ntmps86
  go_wp2
  go_ret
  exact ⟨by first | rfl | (simp; done) | (simp [*]; done), by repeat (first | exact as_.refl _ | apply as_.step)⟩
 rw [if_pos c3] at H
 have c3b0 : decide (a1 < a0) = true := decide_eq_true c3
 clear c3
 obtain rfl := Option.some.inj H
 go_enter Try.func86, Try.ntmps86
 go_wp2
 go_ret
 exact ⟨by first | rfl | (simp; done) | (simp [*]; done), by repeat (first | exact as_.refl _ | apply as_.step)⟩
def aH_.f (a0_0 : Int) (a0_1 : Int) (a1_0 : Int) (a1_1 : Int) (a2_0 : Int) (a2_1 : Int) : Option (Bool) := (bg_.f a0_0 a0_1 a1_0 a1_1 a2_0 a2_1).bind fun t104 => (if t104 = 0 then ((cf_.f a0_0 a1_0).bind fun t105 => ((cg_.f a0_0 a1_0).bind fun t106 => ((ao_.f a2_0 t105 t106).bind fun t107 => (if t107 = true then ((cf_.f a0_1 a1_1).bind fun t108 => ((cg_.f a0_1 a1_1).bind fun t109 => ((ao_.f a2_1 t108 t109).bind fun t110 => (some t110)))) else (some false))))) else (some false))
def aH_.T1 : Bool × List (List Nat × List Nat) := (true, [([], []), ([], []), ([], []), ([0, 1, 2], [0, 1, 2]), ([3], [3]), ([4, 3], [4]), ([5], [5]), ([6, 5], [5, 6]), ([5], [5]), ([8, 5], [5, 8]), ([5], [5]), ([10, 5], [5, 10]), ([9, 11, 5, 5], [5, 9, 11]), ([5], [5]), ([13, 5], [5, 13]), ([5], [5]), ([15, 5], [5, 15]), ([14, 16, 12, 5], [5, 14, 16]), ([7, 12, 17, 17, 5], [5, 7, 12, 17]), ([5, 18], [5, 18]), ([19, 18], [19]), ([20], [20]), ([21, 20], [20, 21]), ([20], [20]), ([23, 20], [20, 23]), ([20], [20]), ([25, 20], [20, 25]), ([24, 26, 20, 20], [20, 24, 26]), ([20], [20]), ([28, 20], [20, 28]), ([20], [20]), ([30, 20], [20, 30]), ([29, 31, 27, 20], [20, 29, 31]), ([22, 27, 32, 32, 20], [20, 22, 27, 32]), ([20, 33], [20, 33]), ([34, 33, 0, 1, 2, 3, 4, 5, 6, 7, 8, 9, 10, 11, 12, 13, 14, 15, 16, 17, 18, 19, 20, 21, 22, 23, 24, 25, 26, 27, 28, 29, 30, 31, 32, 33, 34], [34])])
def aH_.B1 : List Nat := [0, 0, 0, 7, 15, 31, 63, 127, 63, 319, 63, 1087, 3903, 63, 8255, 63, 32831, 130879, 262143, 524287, 1048575, 2097151, 4194303, 2097151, 10485759, 2097151, 35651583, 127926271, 2097151, 270532607, 2097151, 1075838975, 4288675839, 8589934591, 17179869183, 34359738367]
theorem aH_.tab1 : rtab .any (opsOf Try.f76 1) = aH_.T1 := by kernel_rfl
theorem aH_.bits1 : cj_ aH_.T1.2 aH_.B1 = true := by kernel_rfl
set_option maxHeartbeats 8000000 in
set_option maxRecDepth 100000 in
theorem aH_.calls (a0_0 : Int) (a0_1 : Int) (a1_0 : Int) (a1_1 : Int) (a2_0 : Int) (a2_1 : Int) (r : Bool) (w : World) (h : aH_.f a0_0 a0_1 a1_0 a1_1 a2_0 a2_1 = some r) :
  Calls Try.prog 76 #[.agg #[.int .i64 a0_0, .int .i64 a0_1], .agg #[.int .i64 a1_0, .int .i64 a1_1], .agg #[.int .i64 a2_0, .int .i64 a2_1]] w fun e w' => e = .returned (.bool r) ∧ Below w.heap.size w w' := by
 have hu81 := Try.underlying81
 have HB := Aside0.mk (Below.refl w.heap.size w)
 have H : ((bg_.f a0_0 a0_1 a1_0 a1_1 a2_0 a2_1).bind fun t104 => (if t104 = 0 then ((cf_.f a0_0 a1_0).bind fun t105 => ((cg_.f a0_0 a1_0).bind fun t106 => ((ao_.f a2_0 t105 t106).bind fun t107 => (if t107 = true then ((cf_.f a0_1 a1_1).bind fun t108 => ((cg_.f a0_1 a1_1).bind fun t109 => ((ao_.f a2_1 t108 t109).bind fun t110 => (some t110)))) else (some false))))) else (some false))) = some r := h
 clear h
 replace H := Option.bind_eq_some_iff.mp H
 obtain ⟨t104, A40, H⟩ := H
 (try dsimp only at H)
 have A4 := Aside0.mk A40
 clear A40
 by_cases c5 : t104 = 0
 rotate_left
 ·rw [if_neg c5] at H
  have c5b0 : (t104 == 0) = false := beq_eq_false_iff_ne.mpr c5
  have c5b1 : (t104 != 0) = true := bne_iff_ne.mpr c5
  obtain rfl := Option.some.inj H
  go_enter Try.func76, Try.ntmps76
  try go_wp2_with (first | ((with_reducible refine al_ (N := 3) rfl ?_); refine ak_ ?hg (N := 3) ?hd (cs := #[.int .i64 a0_0, .int .i64 a0_1]) (t := 81) ?hr ?_; (case hd => rfl); (case hg => rfl); (case hr => (go_simp; try rfl)); intro gb101 hg w23 hbox hb; have BK101 := Aside0.mk (hbox); have GW101 := Aside0.mk ((by rw [hg]; exact (ae_ (bz HB.out)) : w.heap.size ≤ gb101)); have GE101 := GW101; replace HB := Aside0.mk (ad_ (bz HB.out) hb); clear hb hbox hg) | ((with_reducible refine al_ (N := 4) rfl ?_); refine ak_ ?hg (N := 4) ?hd (cs := #[.int .i64 a1_0, .int .i64 a1_1]) (t := 81) ?hr ?_; (case hd => rfl); (case hg => rfl); (case hr => (go_simp; try rfl)); intro gb102 hg w24 hbox hb; have BK102 := Aside0.mk (hbox); have GW102 := Aside0.mk ((by rw [hg]; exact (ae_ (bq)) : w.heap.size ≤ gb102)); have GE102 := GW102; replace HB := Aside0.mk (ad_ (bq) hb); have NB101_102 := Aside0.mk ((by rw [hg]; exact Nat.ne_of_lt (aj_ (kz BK101.out)) : gb101 ≠ gb102)); have NB102_101 := Aside0.mk ((by rw [hg]; exact Nat.ne_of_gt (aj_ (kz BK101.out)) : gb102 ≠ gb101)); replace BK101 := Aside0.mk (aa_ (kz BK101.out) hb); clear hb hbox hg) | ((with_reducible refine al_ (N := 5) rfl ?_); refine ak_ ?hg (N := 5) ?hd (cs := #[.int .i64 a2_0, .int .i64 a2_1]) (t := 81) ?hr ?_; (case hd => rfl); (case hg => rfl); (case hr => (go_simp; try rfl)); intro gb103 hg w25 hbox hb; have BK103 := Aside0.mk (hbox); have GW103 := Aside0.mk ((by rw [hg]; exact (ae_ (bq)) : w.heap.size ≤ gb103)); have GE103 := GW103; replace HB := Aside0.mk (ad_ (bq) hb); have NB101_103 := Aside0.mk ((by rw [hg]; exact Nat.ne_of_lt (aj_ (kz BK101.out)) : gb101 ≠ gb103)); have NB103_101 := Aside0.mk ((by rw [hg]; exact Nat.ne_of_gt (aj_ (kz BK101.out)) : gb103 ≠ gb101)); replace BK101 := Aside0.mk (aa_ (kz BK101.out) hb); have NB102_103 := Aside0.mk ((by rw [hg]; exact Nat.ne_of_lt (aj_ (kz BK102.out)) : gb102 ≠ gb103)); have NB103_102 := Aside0.mk ((by rw [hg]; exact Nat.ne_of_gt (aj_ (kz BK102.out)) : gb103 ≠ gb102)); replace BK102 := Aside0.mk (aa_ (kz BK102.out) hb); clear hb hbox hg))
  have n0_ := Aside0.mk (av_ BK101.out)
  have n1_ := Aside0.mk (av_ BK102.out)
  have n2_ := Aside0.mk (av_ BK103.out)
  have n3_ := Aside0.mk (bD_ HB.out)
  clear BK101
  clear BK102
  clear BK103
  clear HB
  have BK101 := n0_
  have BK102 := n1_
  have BK103 := n2_
  have HB := n3_
  clear n0_ n1_ n2_ n3_
  refine cl_ (n := 36) (S := fun w' => w'.cell? ⟨gb101, 0, none⟩ = some (.int .i64 a0_0) ∧ w'.cell? ⟨gb101, 1, none⟩ = some (.int .i64 a0_1) ∧ w'.cell? ⟨gb102, 0, none⟩ = some (.int .i64 a1_0) ∧ w'.cell? ⟨gb102, 1, none⟩ = some (.int .i64 a1_1) ∧ w'.cell? ⟨gb103, 0, none⟩ = some (.int .i64 a2_0) ∧ w'.cell? ⟨gb103, 1, none⟩ = some (.int .i64 a2_1)) (ds := []) #[f_,f_,f_,f_,f_,f_,f_,f_,f_,f_,f_,f_,f_,f_,f_,f_,f_,f_,f_,f_,f_,f_,f_,f_,f_,f_,f_,f_,f_,f_,f_,f_,f_,f_,f_,f_] (by kernel_rfl) rfl rfl ⟨(ac_ BK101.out 0).trans rfl, (ac_ BK101.out 1).trans rfl, (ac_ BK102.out 0).trans rfl, (ac_ BK102.out 1).trans rfl, (ac_ BK103.out 0).trans rfl, (ac_ BK103.out 1).trans rfl⟩ (fun hHeld => ?_); refine bo_ aH_.tab1 aH_.bits1 (fun HT_ HW_ => ?_)
  generalize w25.drew = w26 at BK101 BK102 BK103 HB hHeld ⊢
  refine tk 0 7 #[t_,f_,f_,f_,f_,f_,f_,f_,f_,f_,f_,f_,f_,f_,f_,f_,f_,f_,f_,f_,f_,f_,f_,f_,f_,f_,f_,f_,f_,f_,f_,f_,f_,f_,f_,f_] HT_ HW_ hHeld ?_ (hv := by rintro w' ⟨s0, s1, s2, s3, s4, s5⟩; go_simp; with_reducible rfl)
  refine tk 1 8 #[t_,t_,f_,f_,f_,f_,f_,f_,f_,f_,f_,f_,f_,f_,f_,f_,f_,f_,f_,f_,f_,f_,f_,f_,f_,f_,f_,f_,f_,f_,f_,f_,f_,f_,f_,f_] HT_ HW_ hHeld ?_ (hv := by rintro w' ⟨s0, s1, s2, s3, s4, s5⟩; go_simp; with_reducible rfl)
  refine tk 2 9 #[t_,t_,t_,f_,f_,f_,f_,f_,f_,f_,f_,f_,f_,f_,f_,f_,f_,f_,f_,f_,f_,f_,f_,f_,f_,f_,f_,f_,f_,f_,f_,f_,f_,f_,f_,f_] HT_ HW_ hHeld ?_ (hv := by rintro w' ⟨s0, s1, s2, s3, s4, s5⟩; go_simp; with_reducible rfl)
  refine one_ (i := 3) (N := some 10) #[t_,t_,t_,t_,f_,f_,f_,f_,f_,f_,f_,f_,f_,f_,f_,f_,f_,f_,f_,f_,f_,f_,f_,f_,f_,f_,f_,f_,f_,f_,f_,f_,f_,f_,f_,f_] rfl rfl (bh_ HT_.out (by kernel_rfl)) (by decide) (fun K hK => ?_)
  (first | refine goes_ Try.func84 (by kernel_rfl) rfl #[.agg #[.int .i64 a0_0, .int .i64 a0_1], .agg #[.int .i64 a1_0, .int .i64 a1_1], .agg #[.int .i64 a2_0, .int .i64 a2_1]] (by rfl) rfl rfl (by first | rfl | (simp only [lma_, lmc_, lmn_]; first | done | rfl)) ?_ | refine RPW.by_ Try.func84 (by kernel_rfl) rfl #[.agg #[.int .i64 a0_0, .int .i64 a0_1], .agg #[.int .i64 a1_0, .int .i64 a1_1], .agg #[.int .i64 a2_0, .int .i64 a2_1]] (by rfl) rfl rfl rfl (by first | rfl | (simp only [lma_, lmc_, lmn_]; first | done | rfl)) ?_ | refine RPW.bz_ Try.func84 (by kernel_rfl) rfl #[.agg #[.int .i64 a0_0, .int .i64 a0_1], .agg #[.int .i64 a1_0, .int .i64 a1_1], .agg #[.int .i64 a2_0, .int .i64 a2_1]] (by rfl) rfl rfl rfl (by first | rfl | (simp only [lma_, lmc_, lmn_]; first | done | rfl)) ?_)
  with_reducible refine (bg_.calls a0_0 a0_1 a1_0 a1_1 a2_0 a2_1 t104 _ A4.out).mono ?_
  rintro e w27 ⟨rfl, hb⟩
  refine ⟨_, rfl, ?_⟩
  have n0_ := Aside0.mk (aa_ (kz BK101.out) hb)
  have n1_ := Aside0.mk (aa_ (kz BK102.out) hb)
  have n2_ := Aside0.mk (aa_ (kz BK103.out) hb)
  have n3_ := Aside0.mk (ad_ (bq) hb)
  clear BK101
  clear BK102
  clear BK103
  clear HB
  have BK101 := n0_
  have BK102 := n1_
  have BK103 := n2_
  have HB := n3_
  clear n0_ n1_ n2_ n3_
  (try clear hb)
  refine hK.out _ _ ⟨(ac_ BK101.out 0).trans rfl, (ac_ BK101.out 1).trans rfl, (ac_ BK102.out 0).trans rfl, (ac_ BK102.out 1).trans rfl, (ac_ BK103.out 0).trans rfl, (ac_ BK103.out 1).trans rfl⟩ (fun hHeld => ?_)
  clear hK K
  refine norm_ (a' := ?_) ?_ ?_
  rotate_left
  ·show Act.put _ (some 10) _ = _
   simp only [Act.put, lsa_, ls0_, ls1_, i64_w, i32_w]
   rfl
  refine pu 4 11 #[t_,t_,t_,t_,t_,f_,f_,f_,f_,f_,f_,f_,f_,f_,f_,f_,f_,f_,f_,f_,f_,f_,f_,f_,f_,f_,f_,f_,f_,f_,f_,f_,f_,f_,f_,f_] HT_ ?_
  refine pu 5 12 #[t_,t_,t_,t_,t_,t_,f_,f_,f_,f_,f_,f_,f_,f_,f_,f_,f_,f_,f_,f_,f_,f_,f_,f_,f_,f_,f_,f_,f_,f_,f_,f_,f_,f_,f_,f_] HT_ ?_
  refine pn 6 13 #[t_,t_,t_,t_,t_,t_,t_,f_,f_,f_,f_,f_,f_,f_,f_,f_,f_,f_,f_,f_,f_,f_,f_,f_,f_,f_,f_,f_,f_,f_,f_,f_,f_,f_,f_,f_] HT_ ?_
  refine pn 7 14 #[t_,t_,t_,t_,t_,t_,t_,t_,f_,f_,f_,f_,f_,f_,f_,f_,f_,f_,f_,f_,f_,f_,f_,f_,f_,f_,f_,f_,f_,f_,f_,f_,f_,f_,f_,f_] HT_ ?_
  refine pn 8 15 #[t_,t_,t_,t_,t_,t_,t_,t_,t_,f_,f_,f_,f_,f_,f_,f_,f_,f_,f_,f_,f_,f_,f_,f_,f_,f_,f_,f_,f_,f_,f_,f_,f_,f_,f_,f_] HT_ ?_
  refine pn 9 16 #[t_,t_,t_,t_,t_,t_,t_,t_,t_,t_,f_,f_,f_,f_,f_,f_,f_,f_,f_,f_,f_,f_,f_,f_,f_,f_,f_,f_,f_,f_,f_,f_,f_,f_,f_,f_] HT_ ?_
  refine pn 10 17 #[t_,t_,t_,t_,t_,t_,t_,t_,t_,t_,t_,f_,f_,f_,f_,f_,f_,f_,f_,f_,f_,f_,f_,f_,f_,f_,f_,f_,f_,f_,f_,f_,f_,f_,f_,f_] HT_ ?_
  refine pn 11 18 #[t_,t_,t_,t_,t_,t_,t_,t_,t_,t_,t_,t_,f_,f_,f_,f_,f_,f_,f_,f_,f_,f_,f_,f_,f_,f_,f_,f_,f_,f_,f_,f_,f_,f_,f_,f_] HT_ ?_
  refine pn 12 19 #[t_,t_,t_,t_,t_,t_,t_,t_,t_,t_,t_,t_,t_,f_,f_,f_,f_,f_,f_,f_,f_,f_,f_,f_,f_,f_,f_,f_,f_,f_,f_,f_,f_,f_,f_,f_] HT_ ?_
  refine pn 13 20 #[t_,t_,t_,t_,t_,t_,t_,t_,t_,t_,t_,t_,t_,t_,f_,f_,f_,f_,f_,f_,f_,f_,f_,f_,f_,f_,f_,f_,f_,f_,f_,f_,f_,f_,f_,f_] HT_ ?_
  refine pn 14 21 #[t_,t_,t_,t_,t_,t_,t_,t_,t_,t_,t_,t_,t_,t_,t_,f_,f_,f_,f_,f_,f_,f_,f_,f_,f_,f_,f_,f_,f_,f_,f_,f_,f_,f_,f_,f_] HT_ ?_
  refine pn 15 22 #[t_,t_,t_,t_,t_,t_,t_,t_,t_,t_,t_,t_,t_,t_,t_,t_,f_,f_,f_,f_,f_,f_,f_,f_,f_,f_,f_,f_,f_,f_,f_,f_,f_,f_,f_,f_] HT_ ?_
  refine pn 16 23 #[t_,t_,t_,t_,t_,t_,t_,t_,t_,t_,t_,t_,t_,t_,t_,t_,t_,f_,f_,f_,f_,f_,f_,f_,f_,f_,f_,f_,f_,f_,f_,f_,f_,f_,f_,f_] HT_ ?_
  refine pn 17 24 #[t_,t_,t_,t_,t_,t_,t_,t_,t_,t_,t_,t_,t_,t_,t_,t_,t_,t_,f_,f_,f_,f_,f_,f_,f_,f_,f_,f_,f_,f_,f_,f_,f_,f_,f_,f_] HT_ ?_
  refine pn 18 25 #[t_,t_,t_,t_,t_,t_,t_,t_,t_,t_,t_,t_,t_,t_,t_,t_,t_,t_,t_,f_,f_,f_,f_,f_,f_,f_,f_,f_,f_,f_,f_,f_,f_,f_,f_,f_] HT_ ?_
  refine pu 19 26 #[t_,t_,t_,t_,t_,t_,t_,t_,t_,t_,t_,t_,t_,t_,t_,t_,t_,t_,t_,t_,f_,f_,f_,f_,f_,f_,f_,f_,f_,f_,f_,f_,f_,f_,f_,f_] HT_ ?_
  refine pu 20 27 #[t_,t_,t_,t_,t_,t_,t_,t_,t_,t_,t_,t_,t_,t_,t_,t_,t_,t_,t_,t_,t_,f_,f_,f_,f_,f_,f_,f_,f_,f_,f_,f_,f_,f_,f_,f_] HT_ ?_
  refine pn 21 28 #[t_,t_,t_,t_,t_,t_,t_,t_,t_,t_,t_,t_,t_,t_,t_,t_,t_,t_,t_,t_,t_,t_,f_,f_,f_,f_,f_,f_,f_,f_,f_,f_,f_,f_,f_,f_] HT_ ?_
  refine pn 22 29 #[t_,t_,t_,t_,t_,t_,t_,t_,t_,t_,t_,t_,t_,t_,t_,t_,t_,t_,t_,t_,t_,t_,t_,f_,f_,f_,f_,f_,f_,f_,f_,f_,f_,f_,f_,f_] HT_ ?_
  refine pn 23 30 #[t_,t_,t_,t_,t_,t_,t_,t_,t_,t_,t_,t_,t_,t_,t_,t_,t_,t_,t_,t_,t_,t_,t_,t_,f_,f_,f_,f_,f_,f_,f_,f_,f_,f_,f_,f_] HT_ ?_
  refine pn 24 31 #[t_,t_,t_,t_,t_,t_,t_,t_,t_,t_,t_,t_,t_,t_,t_,t_,t_,t_,t_,t_,t_,t_,t_,t_,t_,f_,f_,f_,f_,f_,f_,f_,f_,f_,f_,f_] HT_ ?_
  refine pn 25 32 #[t_,t_,t_,t_,t_,t_,t_,t_,t_,t_,t_,t_,t_,t_,t_,t_,t_,t_,t_,t_,t_,t_,t_,t_,t_,t_,f_,f_,f_,f_,f_,f_,f_,f_,f_,f_] HT_ ?_
  refine pn 26 33 #[t_,t_,t_,t_,t_,t_,t_,t_,t_,t_,t_,t_,t_,t_,t_,t_,t_,t_,t_,t_,t_,t_,t_,t_,t_,t_,t_,f_,f_,f_,f_,f_,f_,f_,f_,f_] HT_ ?_
  refine pn 27 34 #[t_,t_,t_,t_,t_,t_,t_,t_,t_,t_,t_,t_,t_,t_,t_,t_,t_,t_,t_,t_,t_,t_,t_,t_,t_,t_,t_,t_,f_,f_,f_,f_,f_,f_,f_,f_] HT_ ?_
  refine pn 28 35 #[t_,t_,t_,t_,t_,t_,t_,t_,t_,t_,t_,t_,t_,t_,t_,t_,t_,t_,t_,t_,t_,t_,t_,t_,t_,t_,t_,t_,t_,f_,f_,f_,f_,f_,f_,f_] HT_ ?_
  refine pn 29 36 #[t_,t_,t_,t_,t_,t_,t_,t_,t_,t_,t_,t_,t_,t_,t_,t_,t_,t_,t_,t_,t_,t_,t_,t_,t_,t_,t_,t_,t_,t_,f_,f_,f_,f_,f_,f_] HT_ ?_
  refine pn 30 37 #[t_,t_,t_,t_,t_,t_,t_,t_,t_,t_,t_,t_,t_,t_,t_,t_,t_,t_,t_,t_,t_,t_,t_,t_,t_,t_,t_,t_,t_,t_,t_,f_,f_,f_,f_,f_] HT_ ?_
  refine pn 31 38 #[t_,t_,t_,t_,t_,t_,t_,t_,t_,t_,t_,t_,t_,t_,t_,t_,t_,t_,t_,t_,t_,t_,t_,t_,t_,t_,t_,t_,t_,t_,t_,t_,f_,f_,f_,f_] HT_ ?_
  refine pn 32 39 #[t_,t_,t_,t_,t_,t_,t_,t_,t_,t_,t_,t_,t_,t_,t_,t_,t_,t_,t_,t_,t_,t_,t_,t_,t_,t_,t_,t_,t_,t_,t_,t_,t_,f_,f_,f_] HT_ ?_
  refine pn 33 40 #[t_,t_,t_,t_,t_,t_,t_,t_,t_,t_,t_,t_,t_,t_,t_,t_,t_,t_,t_,t_,t_,t_,t_,t_,t_,t_,t_,t_,t_,t_,t_,t_,t_,t_,f_,f_] HT_ ?_
  refine pu 34 41 #[t_,t_,t_,t_,t_,t_,t_,t_,t_,t_,t_,t_,t_,t_,t_,t_,t_,t_,t_,t_,t_,t_,t_,t_,t_,t_,t_,t_,t_,t_,t_,t_,t_,t_,t_,f_] HT_ ?_
  refine pu 35 6 #[t_,t_,t_,t_,t_,t_,t_,t_,t_,t_,t_,t_,t_,t_,t_,t_,t_,t_,t_,t_,t_,t_,t_,t_,t_,t_,t_,t_,t_,t_,t_,t_,t_,t_,t_,t_] HT_ ?_
  refine done_ (bS_ HT_.out (by kernel_rfl)) ?_
  try go_wp2
  go_ret
  exact ⟨by first | rfl | (simp [*, ah_, ai_] <;> rfl), bq⟩
 rw [if_pos c5] at H
 have c5b0 : (t104 == 0) = true := beq_iff_eq.mpr c5
 have c5b1 : (t104 != 0) = false := bne_eq_false_iff_eq.mpr c5
 clear c5
 replace H := Option.bind_eq_some_iff.mp H
 obtain ⟨t105, A60, H⟩ := H
 (try dsimp only at H)
 have A6 := Aside0.mk A60
 clear A60
 replace H := Option.bind_eq_some_iff.mp H
 obtain ⟨t106, A70, H⟩ := H
 (try dsimp only at H)
 have A7 := Aside0.mk A70
 clear A70
 replace H := Option.bind_eq_some_iff.mp H
 obtain ⟨t107, A80, H⟩ := H
 (try dsimp only at H)
 have A8 := Aside0.mk A80
 clear A80
 by_cases c9 : t107 = true
 rotate_left
 ·replace c9 := Bool.eq_false_iff.mpr c9
  subst c9
  have H1 : (some false) = some r := by rw [if_neg (show ¬ (false = true) by decide)] at H; exact H
  clear H
  have H := H1
  clear H1
  obtain rfl := Option.some.inj H
  go_enter Try.func76, Try.ntmps76
  try go_wp2_with (first | ((with_reducible refine al_ (N := 3) rfl ?_); refine ak_ ?hg (N := 3) ?hd (cs := #[.int .i64 a0_0, .int .i64 a0_1]) (t := 81) ?hr ?_; (case hd => rfl); (case hg => rfl); (case hr => (go_simp; try rfl)); intro gb101 hg w18 hbox hb; have BK101 := Aside0.mk (hbox); have GW101 := Aside0.mk ((by rw [hg]; exact (ae_ (bz HB.out)) : w.heap.size ≤ gb101)); have GE101 := GW101; replace HB := Aside0.mk (ad_ (bz HB.out) hb); clear hb hbox hg) | ((with_reducible refine al_ (N := 4) rfl ?_); refine ak_ ?hg (N := 4) ?hd (cs := #[.int .i64 a1_0, .int .i64 a1_1]) (t := 81) ?hr ?_; (case hd => rfl); (case hg => rfl); (case hr => (go_simp; try rfl)); intro gb102 hg w19 hbox hb; have BK102 := Aside0.mk (hbox); have GW102 := Aside0.mk ((by rw [hg]; exact (ae_ (bq)) : w.heap.size ≤ gb102)); have GE102 := GW102; replace HB := Aside0.mk (ad_ (bq) hb); have NB101_102 := Aside0.mk ((by rw [hg]; exact Nat.ne_of_lt (aj_ (kz BK101.out)) : gb101 ≠ gb102)); have NB102_101 := Aside0.mk ((by rw [hg]; exact Nat.ne_of_gt (aj_ (kz BK101.out)) : gb102 ≠ gb101)); replace BK101 := Aside0.mk (aa_ (kz BK101.out) hb); clear hb hbox hg) | ((with_reducible refine al_ (N := 5) rfl ?_); refine ak_ ?hg (N := 5) ?hd (cs := #[.int .i64 a2_0, .int .i64 a2_1]) (t := 81) ?hr ?_; (case hd => rfl); (case hg => rfl); (case hr => (go_simp; try rfl)); intro gb103 hg w20 hbox hb; have BK103 := Aside0.mk (hbox); have GW103 := Aside0.mk ((by rw [hg]; exact (ae_ (bq)) : w.heap.size ≤ gb103)); have GE103 := GW103; replace HB := Aside0.mk (ad_ (bq) hb); have NB101_103 := Aside0.mk ((by rw [hg]; exact Nat.ne_of_lt (aj_ (kz BK101.out)) : gb101 ≠ gb103)); have NB103_101 := Aside0.mk ((by rw [hg]; exact Nat.ne_of_gt (aj_ (kz BK101.out)) : gb103 ≠ gb101)); replace BK101 := Aside0.mk (aa_ (kz BK101.out) hb); have NB102_103 := Aside0.mk ((by rw [hg]; exact Nat.ne_of_lt (aj_ (kz BK102.out)) : gb102 ≠ gb103)); have NB103_102 := Aside0.mk ((by rw [hg]; exact Nat.ne_of_gt (aj_ (kz BK102.out)) : gb103 ≠ gb102)); replace BK102 := Aside0.mk (aa_ (kz BK102.out) hb); clear hb hbox hg))
  have n0_ := Aside0.mk (av_ BK101.out)
  have n1_ := Aside0.mk (av_ BK102.out)
  have n2_ := Aside0.mk (av_ BK103.out)
  have n3_ := Aside0.mk (bD_ HB.out)
  clear BK101
  clear BK102
  clear BK103
  clear HB
  have BK101 := n0_
  have BK102 := n1_
  have BK103 := n2_
  have HB := n3_
  clear n0_ n1_ n2_ n3_
  refine cl_ (n := 36) (S := fun w' => w'.cell? ⟨gb101, 0, none⟩ = some (.int .i64 a0_0) ∧ w'.cell? ⟨gb101, 1, none⟩ = some (.int .i64 a0_1) ∧ w'.cell? ⟨gb102, 0, none⟩ = some (.int .i64 a1_0) ∧ w'.cell? ⟨gb102, 1, none⟩ = some (.int .i64 a1_1) ∧ w'.cell? ⟨gb103, 0, none⟩ = some (.int .i64 a2_0) ∧ w'.cell? ⟨gb103, 1, none⟩ = some (.int .i64 a2_1)) (ds := []) #[f_,f_,f_,f_,f_,f_,f_,f_,f_,f_,f_,f_,f_,f_,f_,f_,f_,f_,f_,f_,f_,f_,f_,f_,f_,f_,f_,f_,f_,f_,f_,f_,f_,f_,f_,f_] (by kernel_rfl) rfl rfl ⟨(ac_ BK101.out 0).trans rfl, (ac_ BK101.out 1).trans rfl, (ac_ BK102.out 0).trans rfl, (ac_ BK102.out 1).trans rfl, (ac_ BK103.out 0).trans rfl, (ac_ BK103.out 1).trans rfl⟩ (fun hHeld => ?_); refine bo_ aH_.tab1 aH_.bits1 (fun HT_ HW_ => ?_)
  generalize w20.drew = w21 at BK101 BK102 BK103 HB hHeld ⊢
  refine tk 0 7 #[t_,f_,f_,f_,f_,f_,f_,f_,f_,f_,f_,f_,f_,f_,f_,f_,f_,f_,f_,f_,f_,f_,f_,f_,f_,f_,f_,f_,f_,f_,f_,f_,f_,f_,f_,f_] HT_ HW_ hHeld ?_ (hv := by rintro w' ⟨s0, s1, s2, s3, s4, s5⟩; go_simp; with_reducible rfl)
  refine tk 1 8 #[t_,t_,f_,f_,f_,f_,f_,f_,f_,f_,f_,f_,f_,f_,f_,f_,f_,f_,f_,f_,f_,f_,f_,f_,f_,f_,f_,f_,f_,f_,f_,f_,f_,f_,f_,f_] HT_ HW_ hHeld ?_ (hv := by rintro w' ⟨s0, s1, s2, s3, s4, s5⟩; go_simp; with_reducible rfl)
  refine tk 2 9 #[t_,t_,t_,f_,f_,f_,f_,f_,f_,f_,f_,f_,f_,f_,f_,f_,f_,f_,f_,f_,f_,f_,f_,f_,f_,f_,f_,f_,f_,f_,f_,f_,f_,f_,f_,f_] HT_ HW_ hHeld ?_ (hv := by rintro w' ⟨s0, s1, s2, s3, s4, s5⟩; go_simp; with_reducible rfl)
  refine one_ (i := 3) (N := some 10) #[t_,t_,t_,t_,f_,f_,f_,f_,f_,f_,f_,f_,f_,f_,f_,f_,f_,f_,f_,f_,f_,f_,f_,f_,f_,f_,f_,f_,f_,f_,f_,f_,f_,f_,f_,f_] rfl rfl (bh_ HT_.out (by kernel_rfl)) (by decide) (fun K hK => ?_)
  (first | refine goes_ Try.func84 (by kernel_rfl) rfl #[.agg #[.int .i64 a0_0, .int .i64 a0_1], .agg #[.int .i64 a1_0, .int .i64 a1_1], .agg #[.int .i64 a2_0, .int .i64 a2_1]] (by rfl) rfl rfl (by first | rfl | (simp only [lma_, lmc_, lmn_]; first | done | rfl)) ?_ | refine RPW.by_ Try.func84 (by kernel_rfl) rfl #[.agg #[.int .i64 a0_0, .int .i64 a0_1], .agg #[.int .i64 a1_0, .int .i64 a1_1], .agg #[.int .i64 a2_0, .int .i64 a2_1]] (by rfl) rfl rfl rfl (by first | rfl | (simp only [lma_, lmc_, lmn_]; first | done | rfl)) ?_ | refine RPW.bz_ Try.func84 (by kernel_rfl) rfl #[.agg #[.int .i64 a0_0, .int .i64 a0_1], .agg #[.int .i64 a1_0, .int .i64 a1_1], .agg #[.int .i64 a2_0, .int .i64 a2_1]] (by rfl) rfl rfl rfl (by first | rfl | (simp only [lma_, lmc_, lmn_]; first | done | rfl)) ?_)
  with_reducible refine (bg_.calls a0_0 a0_1 a1_0 a1_1 a2_0 a2_1 t104 _ A4.out).mono ?_
  rintro e w22 ⟨rfl, hb⟩
  refine ⟨_, rfl, ?_⟩
  have n0_ := Aside0.mk (aa_ (kz BK101.out) hb)
  have n1_ := Aside0.mk (aa_ (kz BK102.out) hb)
  have n2_ := Aside0.mk (aa_ (kz BK103.out) hb)
  have n3_ := Aside0.mk (ad_ (bq) hb)
  clear BK101
  clear BK102
  clear BK103
  clear HB
  have BK101 := n0_
  have BK102 := n1_
  have BK103 := n2_
  have HB := n3_
  clear n0_ n1_ n2_ n3_
  (try clear hb)
  refine hK.out _ _ ⟨(ac_ BK101.out 0).trans rfl, (ac_ BK101.out 1).trans rfl, (ac_ BK102.out 0).trans rfl, (ac_ BK102.out 1).trans rfl, (ac_ BK103.out 0).trans rfl, (ac_ BK103.out 1).trans rfl⟩ (fun hHeld => ?_)
  clear hK K
  refine norm_ (a' := ?_) ?_ ?_
  rotate_left
  ·show Act.put _ (some 10) _ = _
   simp only [Act.put, lsa_, ls0_, ls1_, i64_w, i32_w]
   rfl
  refine pu 4 11 #[t_,t_,t_,t_,t_,f_,f_,f_,f_,f_,f_,f_,f_,f_,f_,f_,f_,f_,f_,f_,f_,f_,f_,f_,f_,f_,f_,f_,f_,f_,f_,f_,f_,f_,f_,f_] HT_ ?_
  refine pu 5 12 #[t_,t_,t_,t_,t_,t_,f_,f_,f_,f_,f_,f_,f_,f_,f_,f_,f_,f_,f_,f_,f_,f_,f_,f_,f_,f_,f_,f_,f_,f_,f_,f_,f_,f_,f_,f_] HT_ ?_
  refine pu 6 13 #[t_,t_,t_,t_,t_,t_,t_,f_,f_,f_,f_,f_,f_,f_,f_,f_,f_,f_,f_,f_,f_,f_,f_,f_,f_,f_,f_,f_,f_,f_,f_,f_,f_,f_,f_,f_] HT_ ?_
  refine pu 8 15 #[t_,t_,t_,t_,t_,t_,t_,f_,t_,f_,f_,f_,f_,f_,f_,f_,f_,f_,f_,f_,f_,f_,f_,f_,f_,f_,f_,f_,f_,f_,f_,f_,f_,f_,f_,f_] HT_ ?_
  refine pu 10 17 #[t_,t_,t_,t_,t_,t_,t_,f_,t_,f_,t_,f_,f_,f_,f_,f_,f_,f_,f_,f_,f_,f_,f_,f_,f_,f_,f_,f_,f_,f_,f_,f_,f_,f_,f_,f_] HT_ ?_
  refine pu 13 20 #[t_,t_,t_,t_,t_,t_,t_,f_,t_,f_,t_,f_,f_,t_,f_,f_,f_,f_,f_,f_,f_,f_,f_,f_,f_,f_,f_,f_,f_,f_,f_,f_,f_,f_,f_,f_] HT_ ?_
  refine pu 15 22 #[t_,t_,t_,t_,t_,t_,t_,f_,t_,f_,t_,f_,f_,t_,f_,t_,f_,f_,f_,f_,f_,f_,f_,f_,f_,f_,f_,f_,f_,f_,f_,f_,f_,f_,f_,f_] HT_ ?_
  refine tk 7 14 #[t_,t_,t_,t_,t_,t_,t_,t_,t_,f_,t_,f_,f_,t_,f_,t_,f_,f_,f_,f_,f_,f_,f_,f_,f_,f_,f_,f_,f_,f_,f_,f_,f_,f_,f_,f_] HT_ HW_ hHeld ?_ (hv := by rintro w' ⟨s0, s1, s2, s3, s4, s5⟩; go_simp; with_reducible rfl)
  refine tk 9 16 #[t_,t_,t_,t_,t_,t_,t_,t_,t_,t_,t_,f_,f_,t_,f_,t_,f_,f_,f_,f_,f_,f_,f_,f_,f_,f_,f_,f_,f_,f_,f_,f_,f_,f_,f_,f_] HT_ HW_ hHeld ?_ (hv := by rintro w' ⟨s0, s1, s2, s3, s4, s5⟩; go_simp; with_reducible rfl)
  refine tk 11 18 #[t_,t_,t_,t_,t_,t_,t_,t_,t_,t_,t_,t_,f_,t_,f_,t_,f_,f_,f_,f_,f_,f_,f_,f_,f_,f_,f_,f_,f_,f_,f_,f_,f_,f_,f_,f_] HT_ HW_ hHeld ?_ (hv := by rintro w' ⟨s0, s1, s2, s3, s4, s5⟩; go_simp; with_reducible rfl)
  refine tk 14 21 #[t_,t_,t_,t_,t_,t_,t_,t_,t_,t_,t_,t_,f_,t_,t_,t_,f_,f_,f_,f_,f_,f_,f_,f_,f_,f_,f_,f_,f_,f_,f_,f_,f_,f_,f_,f_] HT_ HW_ hHeld ?_ (hv := by rintro w' ⟨s0, s1, s2, s3, s4, s5⟩; go_simp; with_reducible rfl)
  refine tk 16 23 #[t_,t_,t_,t_,t_,t_,t_,t_,t_,t_,t_,t_,f_,t_,t_,t_,t_,f_,f_,f_,f_,f_,f_,f_,f_,f_,f_,f_,f_,f_,f_,f_,f_,f_,f_,f_] HT_ HW_ hHeld ?_ (hv := by rintro w' ⟨s0, s1, s2, s3, s4, s5⟩; go_simp; with_reducible rfl)
  refine one_ (i := 12) (N := some 19) #[t_,t_,t_,t_,t_,t_,t_,t_,t_,t_,t_,t_,t_,t_,t_,t_,t_,f_,f_,f_,f_,f_,f_,f_,f_,f_,f_,f_,f_,f_,f_,f_,f_,f_,f_,f_] rfl rfl (bh_ HT_.out (by kernel_rfl)) (by decide) (fun K hK => ?_)
  (first | refine goes_ Try.func85 (by kernel_rfl) rfl #[.int .i64 a0_0, .int .i64 a1_0] (by rfl) rfl rfl (by first | rfl | (simp only [lma_, lmc_, lmn_]; first | done | rfl)) ?_ | refine RPW.by_ Try.func85 (by kernel_rfl) rfl #[.int .i64 a0_0, .int .i64 a1_0] (by rfl) rfl rfl rfl (by first | rfl | (simp only [lma_, lmc_, lmn_]; first | done | rfl)) ?_ | refine RPW.bz_ Try.func85 (by kernel_rfl) rfl #[.int .i64 a0_0, .int .i64 a1_0] (by rfl) rfl rfl rfl (by first | rfl | (simp only [lma_, lmc_, lmn_]; first | done | rfl)) ?_)
  with_reducible refine (cf_.calls a0_0 a1_0 t105 _ A6.out).mono ?_
  rintro e w' ⟨rfl, ⟨nd, rfl⟩⟩
  refine ⟨_, rfl, ?_⟩
  refine hK.out _ _ ⟨(ac_ BK101.out 0).trans rfl, (ac_ BK101.out 1).trans rfl, (ac_ BK102.out 0).trans rfl, (ac_ BK102.out 1).trans rfl, (ac_ BK103.out 0).trans rfl, (ac_ BK103.out 1).trans rfl⟩ (fun hHeld => ?_)
  clear hK K
  refine norm_ (a' := ?_) ?_ ?_
  rotate_left
  ·show Act.put _ (some 19) _ = _
   simp only [Act.put, lsa_, ls0_, ls1_, i64_w, i32_w]
   rfl
  refine one_ (i := 17) (N := some 24) #[t_,t_,t_,t_,t_,t_,t_,t_,t_,t_,t_,t_,t_,t_,t_,t_,t_,t_,f_,f_,f_,f_,f_,f_,f_,f_,f_,f_,f_,f_,f_,f_,f_,f_,f_,f_] rfl rfl (bh_ HT_.out (by kernel_rfl)) (by decide) (fun K hK => ?_)
  (first | refine goes_ Try.func86 (by kernel_rfl) rfl #[.int .i64 a0_0, .int .i64 a1_0] (by rfl) rfl rfl (by first | rfl | (simp only [lma_, lmc_, lmn_]; first | done | rfl)) ?_ | refine RPW.by_ Try.func86 (by kernel_rfl) rfl #[.int .i64 a0_0, .int .i64 a1_0] (by rfl) rfl rfl rfl (by first | rfl | (simp only [lma_, lmc_, lmn_]; first | done | rfl)) ?_ | refine RPW.bz_ Try.func86 (by kernel_rfl) rfl #[.int .i64 a0_0, .int .i64 a1_0] (by rfl) rfl rfl rfl (by first | rfl | (simp only [lma_, lmc_, lmn_]; first | done | rfl)) ?_)
  with_reducible refine (cg_.calls a0_0 a1_0 t106 _ A7.out).mono ?_
  rintro e w' ⟨rfl, ⟨nd, rfl⟩⟩
  refine ⟨_, rfl, ?_⟩
  refine hK.out _ _ ⟨(ac_ BK101.out 0).trans rfl, (ac_ BK101.out 1).trans rfl, (ac_ BK102.out 0).trans rfl, (ac_ BK102.out 1).trans rfl, (ac_ BK103.out 0).trans rfl, (ac_ BK103.out 1).trans rfl⟩ (fun hHeld => ?_)
  clear hK K
  refine norm_ (a' := ?_) ?_ ?_
  rotate_left
  ·show Act.put _ (some 24) _ = _
   simp only [Act.put, lsa_, ls0_, ls1_, i64_w, i32_w]
   rfl
  refine one_ (i := 18) (N := some 25) #[t_,t_,t_,t_,t_,t_,t_,t_,t_,t_,t_,t_,t_,t_,t_,t_,t_,t_,t_,f_,f_,f_,f_,f_,f_,f_,f_,f_,f_,f_,f_,f_,f_,f_,f_,f_] rfl rfl (bh_ HT_.out (by kernel_rfl)) (by decide) (fun K hK => ?_)
  (first | refine goes_ Try.func47 (by kernel_rfl) rfl #[.int .i64 a2_0, .int .i64 t105, .int .i64 t106] (by rfl) rfl rfl (by first | rfl | (simp only [lma_, lmc_, lmn_]; first | done | rfl)) ?_ | refine RPW.by_ Try.func47 (by kernel_rfl) rfl #[.int .i64 a2_0, .int .i64 t105, .int .i64 t106] (by rfl) rfl rfl rfl (by first | rfl | (simp only [lma_, lmc_, lmn_]; first | done | rfl)) ?_ | refine RPW.bz_ Try.func47 (by kernel_rfl) rfl #[.int .i64 a2_0, .int .i64 t105, .int .i64 t106] (by rfl) rfl rfl rfl (by first | rfl | (simp only [lma_, lmc_, lmn_]; first | done | rfl)) ?_)
  with_reducible refine (ao_.calls a2_0 t105 t106 false _ A8.out).mono ?_
  rintro e w' ⟨rfl, ⟨nd, rfl⟩⟩
  refine ⟨_, rfl, ?_⟩
  refine hK.out _ _ ⟨(ac_ BK101.out 0).trans rfl, (ac_ BK101.out 1).trans rfl, (ac_ BK102.out 0).trans rfl, (ac_ BK102.out 1).trans rfl, (ac_ BK103.out 0).trans rfl, (ac_ BK103.out 1).trans rfl⟩ (fun hHeld => ?_)
  clear hK K
  refine norm_ (a' := ?_) ?_ ?_
  rotate_left
  ·show Act.put _ (some 25) _ = _
   simp only [Act.put, lsa_, ls0_, ls1_, i64_w, i32_w]
   rfl
  refine pu 19 26 #[t_,t_,t_,t_,t_,t_,t_,t_,t_,t_,t_,t_,t_,t_,t_,t_,t_,t_,t_,t_,f_,f_,f_,f_,f_,f_,f_,f_,f_,f_,f_,f_,f_,f_,f_,f_] HT_ ?_
  refine pu 20 27 #[t_,t_,t_,t_,t_,t_,t_,t_,t_,t_,t_,t_,t_,t_,t_,t_,t_,t_,t_,t_,t_,f_,f_,f_,f_,f_,f_,f_,f_,f_,f_,f_,f_,f_,f_,f_] HT_ ?_
  refine pn 21 28 #[t_,t_,t_,t_,t_,t_,t_,t_,t_,t_,t_,t_,t_,t_,t_,t_,t_,t_,t_,t_,t_,t_,f_,f_,f_,f_,f_,f_,f_,f_,f_,f_,f_,f_,f_,f_] HT_ ?_
  refine pn 22 29 #[t_,t_,t_,t_,t_,t_,t_,t_,t_,t_,t_,t_,t_,t_,t_,t_,t_,t_,t_,t_,t_,t_,t_,f_,f_,f_,f_,f_,f_,f_,f_,f_,f_,f_,f_,f_] HT_ ?_
  refine pn 23 30 #[t_,t_,t_,t_,t_,t_,t_,t_,t_,t_,t_,t_,t_,t_,t_,t_,t_,t_,t_,t_,t_,t_,t_,t_,f_,f_,f_,f_,f_,f_,f_,f_,f_,f_,f_,f_] HT_ ?_
  refine pn 24 31 #[t_,t_,t_,t_,t_,t_,t_,t_,t_,t_,t_,t_,t_,t_,t_,t_,t_,t_,t_,t_,t_,t_,t_,t_,t_,f_,f_,f_,f_,f_,f_,f_,f_,f_,f_,f_] HT_ ?_
  refine pn 25 32 #[t_,t_,t_,t_,t_,t_,t_,t_,t_,t_,t_,t_,t_,t_,t_,t_,t_,t_,t_,t_,t_,t_,t_,t_,t_,t_,f_,f_,f_,f_,f_,f_,f_,f_,f_,f_] HT_ ?_
  refine pn 26 33 #[t_,t_,t_,t_,t_,t_,t_,t_,t_,t_,t_,t_,t_,t_,t_,t_,t_,t_,t_,t_,t_,t_,t_,t_,t_,t_,t_,f_,f_,f_,f_,f_,f_,f_,f_,f_] HT_ ?_
  refine pn 27 34 #[t_,t_,t_,t_,t_,t_,t_,t_,t_,t_,t_,t_,t_,t_,t_,t_,t_,t_,t_,t_,t_,t_,t_,t_,t_,t_,t_,t_,f_,f_,f_,f_,f_,f_,f_,f_] HT_ ?_
  refine pn 28 35 #[t_,t_,t_,t_,t_,t_,t_,t_,t_,t_,t_,t_,t_,t_,t_,t_,t_,t_,t_,t_,t_,t_,t_,t_,t_,t_,t_,t_,t_,f_,f_,f_,f_,f_,f_,f_] HT_ ?_
  refine pn 29 36 #[t_,t_,t_,t_,t_,t_,t_,t_,t_,t_,t_,t_,t_,t_,t_,t_,t_,t_,t_,t_,t_,t_,t_,t_,t_,t_,t_,t_,t_,t_,f_,f_,f_,f_,f_,f_] HT_ ?_
  refine pn 30 37 #[t_,t_,t_,t_,t_,t_,t_,t_,t_,t_,t_,t_,t_,t_,t_,t_,t_,t_,t_,t_,t_,t_,t_,t_,t_,t_,t_,t_,t_,t_,t_,f_,f_,f_,f_,f_] HT_ ?_
  refine pn 31 38 #[t_,t_,t_,t_,t_,t_,t_,t_,t_,t_,t_,t_,t_,t_,t_,t_,t_,t_,t_,t_,t_,t_,t_,t_,t_,t_,t_,t_,t_,t_,t_,t_,f_,f_,f_,f_] HT_ ?_
  refine pn 32 39 #[t_,t_,t_,t_,t_,t_,t_,t_,t_,t_,t_,t_,t_,t_,t_,t_,t_,t_,t_,t_,t_,t_,t_,t_,t_,t_,t_,t_,t_,t_,t_,t_,t_,f_,f_,f_] HT_ ?_
  refine pn 33 40 #[t_,t_,t_,t_,t_,t_,t_,t_,t_,t_,t_,t_,t_,t_,t_,t_,t_,t_,t_,t_,t_,t_,t_,t_,t_,t_,t_,t_,t_,t_,t_,t_,t_,t_,f_,f_] HT_ ?_
  refine pu 34 41 #[t_,t_,t_,t_,t_,t_,t_,t_,t_,t_,t_,t_,t_,t_,t_,t_,t_,t_,t_,t_,t_,t_,t_,t_,t_,t_,t_,t_,t_,t_,t_,t_,t_,t_,t_,f_] HT_ ?_
  refine pu 35 6 #[t_,t_,t_,t_,t_,t_,t_,t_,t_,t_,t_,t_,t_,t_,t_,t_,t_,t_,t_,t_,t_,t_,t_,t_,t_,t_,t_,t_,t_,t_,t_,t_,t_,t_,t_,t_] HT_ ?_
  refine done_ (bS_ HT_.out (by kernel_rfl)) ?_
  try go_wp2
  go_ret
  exact ⟨by first | rfl | (simp [*, ah_, ai_] <;> rfl), bq⟩
 subst c9
 have H1 : ((cf_.f a0_1 a1_1).bind fun t108 => ((cg_.f a0_1 a1_1).bind fun t109 => ((ao_.f a2_1 t108 t109).bind fun t110 => (some t110)))) = some r := by rw [if_pos rfl] at H; exact H
 clear H
 have H := H1
 clear H1
 replace H := Option.bind_eq_some_iff.mp H
 obtain ⟨t108, A100, H⟩ := H
 (try dsimp only at H)
 have A10 := Aside0.mk A100
 clear A100
 replace H := Option.bind_eq_some_iff.mp H
 obtain ⟨t109, A110, H⟩ := H
 (try dsimp only at H)
 have A11 := Aside0.mk A110
 clear A110
 replace H := Option.bind_eq_some_iff.mp H
 obtain ⟨t110, A120, H⟩ := H
 (try dsimp only at H)
 have A12 := Aside0.mk A120
 clear A120
 obtain rfl := Option.some.inj H
 go_enter Try.func76, Try.ntmps76
 try go_wp2_with (first | ((with_reducible refine al_ (N := 3) rfl ?_); refine ak_ ?hg (N := 3) ?hd (cs := #[.int .i64 a0_0, .int .i64 a0_1]) (t := 81) ?hr ?_; (case hd => rfl); (case hg => rfl); (case hr => (go_simp; try rfl)); intro gb101 hg w13 hbox hb; have BK101 := Aside0.mk (hbox); have GW101 := Aside0.mk ((by rw [hg]; exact (ae_ (bz HB.out)) : w.heap.size ≤ gb101)); have GE101 := GW101; replace HB := Aside0.mk (ad_ (bz HB.out) hb); clear hb hbox hg) | ((with_reducible refine al_ (N := 4) rfl ?_); refine ak_ ?hg (N := 4) ?hd (cs := #[.int .i64 a1_0, .int .i64 a1_1]) (t := 81) ?hr ?_; (case hd => rfl); (case hg => rfl); (case hr => (go_simp; try rfl)); intro gb102 hg w14 hbox hb; have BK102 := Aside0.mk (hbox); have GW102 := Aside0.mk ((by rw [hg]; exact (ae_ (bq)) : w.heap.size ≤ gb102)); have GE102 := GW102; replace HB := Aside0.mk (ad_ (bq) hb); have NB101_102 := Aside0.mk ((by rw [hg]; exact Nat.ne_of_lt (aj_ (kz BK101.out)) : gb101 ≠ gb102)); have NB102_101 := Aside0.mk ((by rw [hg]; exact Nat.ne_of_gt (aj_ (kz BK101.out)) : gb102 ≠ gb101)); replace BK101 := Aside0.mk (aa_ (kz BK101.out) hb); clear hb hbox hg) | ((with_reducible refine al_ (N := 5) rfl ?_); refine ak_ ?hg (N := 5) ?hd (cs := #[.int .i64 a2_0, .int .i64 a2_1]) (t := 81) ?hr ?_; (case hd => rfl); (case hg => rfl); (case hr => (go_simp; try rfl)); intro gb103 hg w15 hbox hb; have BK103 := Aside0.mk (hbox); have GW103 := Aside0.mk ((by rw [hg]; exact (ae_ (bq)) : w.heap.size ≤ gb103)); have GE103 := GW103; replace HB := Aside0.mk (ad_ (bq) hb); have NB101_103 := Aside0.mk ((by rw [hg]; exact Nat.ne_of_lt (aj_ (kz BK101.out)) : gb101 ≠ gb103)); have NB103_101 := Aside0.mk ((by rw [hg]; exact Nat.ne_of_gt (aj_ (kz BK101.out)) : gb103 ≠ gb101)); replace BK101 := Aside0.mk (aa_ (kz BK101.out) hb); have NB102_103 := Aside0.mk ((by rw [hg]; exact Nat.ne_of_lt (aj_ (kz BK102.out)) : gb102 ≠ gb103)); have NB103_102 := Aside0.mk ((by rw [hg]; exact Nat.ne_of_gt (aj_ (kz BK102.out)) : gb103 ≠ gb102)); replace BK102 := Aside0.mk (aa_ (kz BK102.out) hb); clear hb hbox hg))
 have n0_ := Aside0.mk (av_ BK101.out)
 have n1_ := Aside0.mk (av_ BK102.out)
 have n2_ := Aside0.mk (av_ BK103.out)
 have n3_ := Aside0.mk (bD_ HB.out)
 clear BK101
 clear BK102
 clear BK103
 clear HB
 have BK101 := n0_
 have BK102 := n1_
 have BK103 := n2_
 have HB := n3_
 clear n0_ n1_ n2_ n3_
 refine cl_ (n := 36) (S := fun w' => w'.cell? ⟨gb101, 0, none⟩ = some (.int .i64 a0_0) ∧ w'.cell? ⟨gb101, 1, none⟩ = some (.int .i64 a0_1) ∧ w'.cell? ⟨gb102, 0, none⟩ = some (.int .i64 a1_0) ∧ w'.cell? ⟨gb102, 1, none⟩ = some (.int .i64 a1_1) ∧ w'.cell? ⟨gb103, 0, none⟩ = some (.int .i64 a2_0) ∧ w'.cell? ⟨gb103, 1, none⟩ = some (.int .i64 a2_1)) (ds := []) #[f_,f_,f_,f_,f_,f_,f_,f_,f_,f_,f_,f_,f_,f_,f_,f_,f_,f_,f_,f_,f_,f_,f_,f_,f_,f_,f_,f_,f_,f_,f_,f_,f_,f_,f_,f_] (by kernel_rfl) rfl rfl ⟨(ac_ BK101.out 0).trans rfl, (ac_ BK101.out 1).trans rfl, (ac_ BK102.out 0).trans rfl, (ac_ BK102.out 1).trans rfl, (ac_ BK103.out 0).trans rfl, (ac_ BK103.out 1).trans rfl⟩ (fun hHeld => ?_); refine bo_ aH_.tab1 aH_.bits1 (fun HT_ HW_ => ?_)
 generalize w15.drew = w16 at BK101 BK102 BK103 HB hHeld ⊢
 refine tk 0 7 #[t_,f_,f_,f_,f_,f_,f_,f_,f_,f_,f_,f_,f_,f_,f_,f_,f_,f_,f_,f_,f_,f_,f_,f_,f_,f_,f_,f_,f_,f_,f_,f_,f_,f_,f_,f_] HT_ HW_ hHeld ?_ (hv := by rintro w' ⟨s0, s1, s2, s3, s4, s5⟩; go_simp; with_reducible rfl)
 refine tk 1 8 #[t_,t_,f_,f_,f_,f_,f_,f_,f_,f_,f_,f_,f_,f_,f_,f_,f_,f_,f_,f_,f_,f_,f_,f_,f_,f_,f_,f_,f_,f_,f_,f_,f_,f_,f_,f_] HT_ HW_ hHeld ?_ (hv := by rintro w' ⟨s0, s1, s2, s3, s4, s5⟩; go_simp; with_reducible rfl)
 refine tk 2 9 #[t_,t_,t_,f_,f_,f_,f_,f_,f_,f_,f_,f_,f_,f_,f_,f_,f_,f_,f_,f_,f_,f_,f_,f_,f_,f_,f_,f_,f_,f_,f_,f_,f_,f_,f_,f_] HT_ HW_ hHeld ?_ (hv := by rintro w' ⟨s0, s1, s2, s3, s4, s5⟩; go_simp; with_reducible rfl)
 refine one_ (i := 3) (N := some 10) #[t_,t_,t_,t_,f_,f_,f_,f_,f_,f_,f_,f_,f_,f_,f_,f_,f_,f_,f_,f_,f_,f_,f_,f_,f_,f_,f_,f_,f_,f_,f_,f_,f_,f_,f_,f_] rfl rfl (bh_ HT_.out (by kernel_rfl)) (by decide) (fun K hK => ?_)
 (first | refine goes_ Try.func84 (by kernel_rfl) rfl #[.agg #[.int .i64 a0_0, .int .i64 a0_1], .agg #[.int .i64 a1_0, .int .i64 a1_1], .agg #[.int .i64 a2_0, .int .i64 a2_1]] (by rfl) rfl rfl (by first | rfl | (simp only [lma_, lmc_, lmn_]; first | done | rfl)) ?_ | refine RPW.by_ Try.func84 (by kernel_rfl) rfl #[.agg #[.int .i64 a0_0, .int .i64 a0_1], .agg #[.int .i64 a1_0, .int .i64 a1_1], .agg #[.int .i64 a2_0, .int .i64 a2_1]] (by rfl) rfl rfl rfl (by first | rfl | (simp only [lma_, lmc_, lmn_]; first | done | rfl)) ?_ | refine RPW.bz_ Try.func84 (by kernel_rfl) rfl #[.agg #[.int .i64 a0_0, .int .i64 a0_1], .agg #[.int .i64 a1_0, .int .i64 a1_1], .agg #[.int .i64 a2_0, .int .i64 a2_1]] (by rfl) rfl rfl rfl (by first | rfl | (simp only [lma_, lmc_, lmn_]; first | done | rfl)) ?_)
 with_reducible refine (bg_.calls a0_0 a0_1 a1_0 a1_1 a2_0 a2_1 t104 _ A4.out).mono ?_
 rintro e w17 ⟨rfl, hb⟩
 refine ⟨_, rfl, ?_⟩
 have n0_ := Aside0.mk (aa_ (kz BK101.out) hb)
 have n1_ := Aside0.mk (aa_ (kz BK102.out) hb)
 have n2_ := Aside0.mk (aa_ (kz BK103.out) hb)
 have n3_ := Aside0.mk (ad_ (bq) hb)
 clear BK101
 clear BK102
 clear BK103
 clear HB
 have BK101 := n0_
 have BK102 := n1_
 have BK103 := n2_
 have HB := n3_
 clear n0_ n1_ n2_ n3_
 (try clear hb)
 refine hK.out _ _ ⟨(ac_ BK101.out 0).trans rfl, (ac_ BK101.out 1).trans rfl, (ac_ BK102.out 0).trans rfl, (ac_ BK102.out 1).trans rfl, (ac_ BK103.out 0).trans rfl, (ac_ BK103.out 1).trans rfl⟩ (fun hHeld => ?_)
 clear hK K
 refine norm_ (a' := ?_) ?_ ?_
 rotate_left
 ·show Act.put _ (some 10) _ = _
  simp only [Act.put, lsa_, ls0_, ls1_, i64_w, i32_w]
  rfl
 refine pu 4 11 #[t_,t_,t_,t_,t_,f_,f_,f_,f_,f_,f_,f_,f_,f_,f_,f_,f_,f_,f_,f_,f_,f_,f_,f_,f_,f_,f_,f_,f_,f_,f_,f_,f_,f_,f_,f_] HT_ ?_
 refine pu 5 12 #[t_,t_,t_,t_,t_,t_,f_,f_,f_,f_,f_,f_,f_,f_,f_,f_,f_,f_,f_,f_,f_,f_,f_,f_,f_,f_,f_,f_,f_,f_,f_,f_,f_,f_,f_,f_] HT_ ?_
 refine pu 6 13 #[t_,t_,t_,t_,t_,t_,t_,f_,f_,f_,f_,f_,f_,f_,f_,f_,f_,f_,f_,f_,f_,f_,f_,f_,f_,f_,f_,f_,f_,f_,f_,f_,f_,f_,f_,f_] HT_ ?_
 refine pu 8 15 #[t_,t_,t_,t_,t_,t_,t_,f_,t_,f_,f_,f_,f_,f_,f_,f_,f_,f_,f_,f_,f_,f_,f_,f_,f_,f_,f_,f_,f_,f_,f_,f_,f_,f_,f_,f_] HT_ ?_
 refine pu 10 17 #[t_,t_,t_,t_,t_,t_,t_,f_,t_,f_,t_,f_,f_,f_,f_,f_,f_,f_,f_,f_,f_,f_,f_,f_,f_,f_,f_,f_,f_,f_,f_,f_,f_,f_,f_,f_] HT_ ?_
 refine pu 13 20 #[t_,t_,t_,t_,t_,t_,t_,f_,t_,f_,t_,f_,f_,t_,f_,f_,f_,f_,f_,f_,f_,f_,f_,f_,f_,f_,f_,f_,f_,f_,f_,f_,f_,f_,f_,f_] HT_ ?_
 refine pu 15 22 #[t_,t_,t_,t_,t_,t_,t_,f_,t_,f_,t_,f_,f_,t_,f_,t_,f_,f_,f_,f_,f_,f_,f_,f_,f_,f_,f_,f_,f_,f_,f_,f_,f_,f_,f_,f_] HT_ ?_
 refine tk 7 14 #[t_,t_,t_,t_,t_,t_,t_,t_,t_,f_,t_,f_,f_,t_,f_,t_,f_,f_,f_,f_,f_,f_,f_,f_,f_,f_,f_,f_,f_,f_,f_,f_,f_,f_,f_,f_] HT_ HW_ hHeld ?_ (hv := by rintro w' ⟨s0, s1, s2, s3, s4, s5⟩; go_simp; with_reducible rfl)
 refine tk 9 16 #[t_,t_,t_,t_,t_,t_,t_,t_,t_,t_,t_,f_,f_,t_,f_,t_,f_,f_,f_,f_,f_,f_,f_,f_,f_,f_,f_,f_,f_,f_,f_,f_,f_,f_,f_,f_] HT_ HW_ hHeld ?_ (hv := by rintro w' ⟨s0, s1, s2, s3, s4, s5⟩; go_simp; with_reducible rfl)
 refine tk 11 18 #[t_,t_,t_,t_,t_,t_,t_,t_,t_,t_,t_,t_,f_,t_,f_,t_,f_,f_,f_,f_,f_,f_,f_,f_,f_,f_,f_,f_,f_,f_,f_,f_,f_,f_,f_,f_] HT_ HW_ hHeld ?_ (hv := by rintro w' ⟨s0, s1, s2, s3, s4, s5⟩; go_simp; with_reducible rfl)
 refine tk 14 21 #[t_,t_,t_,t_,t_,t_,t_,t_,t_,t_,t_,t_,f_,t_,t_,t_,f_,f_,f_,f_,f_,f_,f_,f_,f_,f_,f_,f_,f_,f_,f_,f_,f_,f_,f_,f_] HT_ HW_ hHeld ?_ (hv := by rintro w' ⟨s0, s1, s2, s3, s4, s5⟩; go_simp; with_reducible rfl)
 refine tk 16 23 #[t_,t_,t_,t_,t_,t_,t_,t_,t_,t_,t_,t_,f_,t_,t_,t_,t_,f_,f_,f_,f_,f_,f_,f_,f_,f_,f_,f_,f_,f_,f_,f_,f_,f_,f_,f_] HT_ HW_ hHeld ?_ (hv := by rintro w' ⟨s0, s1, s2, s3, s4, s5⟩; go_simp; with_reducible rfl)
 refine one_ (i := 12) (N := some 19) #[t_,t_,t_,t_,t_,t_,t_,t_,t_,t_,t_,t_,t_,t_,t_,t_,t_,f_,f_,f_,f_,f_,f_,f_,f_,f_,f_,f_,f_,f_,f_,f_,f_,f_,f_,f_] rfl rfl (bh_ HT_.out (by kernel_rfl)) (by decide) (fun K hK => ?_)
 (first | refine goes_ Try.func85 (by kernel_rfl) rfl #[.int .i64 a0_0, .int .i64 a1_0] (by rfl) rfl rfl (by first | rfl | (simp only [lma_, lmc_, lmn_]; first | done | rfl)) ?_ | refine RPW.by_ Try.func85 (by kernel_rfl) rfl #[.int .i64 a0_0, .int .i64 a1_0] (by rfl) rfl rfl rfl (by first | rfl | (simp only [lma_, lmc_, lmn_]; first | done | rfl)) ?_ | refine RPW.bz_ Try.func85 (by kernel_rfl) rfl #[.int .i64 a0_0, .int .i64 a1_0] (by rfl) rfl rfl rfl (by first | rfl | (simp only [lma_, lmc_, lmn_]; first | done | rfl)) ?_)
 with_reducible refine (cf_.calls a0_0 a1_0 t105 _ A6.out).mono ?_
 rintro e w' ⟨rfl, ⟨nd, rfl⟩⟩
 refine ⟨_, rfl, ?_⟩
 refine hK.out _ _ ⟨(ac_ BK101.out 0).trans rfl, (ac_ BK101.out 1).trans rfl, (ac_ BK102.out 0).trans rfl, (ac_ BK102.out 1).trans rfl, (ac_ BK103.out 0).trans rfl, (ac_ BK103.out 1).trans rfl⟩ (fun hHeld => ?_)
 clear hK K
 refine norm_ (a' := ?_) ?_ ?_
 rotate_left
 ·show Act.put _ (some 19) _ = _
  simp only [Act.put, lsa_, ls0_, ls1_, i64_w, i32_w]
  rfl
 refine one_ (i := 17) (N := some 24) #[t_,t_,t_,t_,t_,t_,t_,t_,t_,t_,t_,t_,t_,t_,t_,t_,t_,t_,f_,f_,f_,f_,f_,f_,f_,f_,f_,f_,f_,f_,f_,f_,f_,f_,f_,f_] rfl rfl (bh_ HT_.out (by kernel_rfl)) (by decide) (fun K hK => ?_)
 (first | refine goes_ Try.func86 (by kernel_rfl) rfl #[.int .i64 a0_0, .int .i64 a1_0] (by rfl) rfl rfl (by first | rfl | (simp only [lma_, lmc_, lmn_]; first | done | rfl)) ?_ | refine RPW.by_ Try.func86 (by kernel_rfl) rfl #[.int .i64 a0_0, .int .i64 a1_0] (by rfl) rfl rfl rfl (by first | rfl | (simp only [lma_, lmc_, lmn_]; first | done | rfl)) ?_ | refine RPW.bz_ Try.func86 (by kernel_rfl) rfl #[.int .i64 a0_0, .int .i64 a1_0] (by rfl) rfl rfl rfl (by first | rfl | (simp only [lma_, lmc_, lmn_]; first | done | rfl)) ?_)
 with_reducible refine (cg_.calls a0_0 a1_0 t106 _ A7.out).mono ?_
 rintro e w' ⟨rfl, ⟨nd, rfl⟩⟩
 refine ⟨_, rfl, ?_⟩
 refine hK.out _ _ ⟨(ac_ BK101.out 0).trans rfl, (ac_ BK101.out 1).trans rfl, (ac_ BK102.out 0).trans rfl, (ac_ BK102.out 1).trans rfl, (ac_ BK103.out 0).trans rfl, (ac_ BK103.out 1).trans rfl⟩ (fun hHeld => ?_)
 clear hK K
 refine norm_ (a' := ?_) ?_ ?_
 rotate_left
 ·show Act.put _ (some 24) _ = _
  simp only [Act.put, lsa_, ls0_, ls1_, i64_w, i32_w]
  rfl
 refine one_ (i := 18) (N := some 25) #[t_,t_,t_,t_,t_,t_,t_,t_,t_,t_,t_,t_,t_,t_,t_,t_,t_,t_,t_,f_,f_,f_,f_,f_,f_,f_,f_,f_,f_,f_,f_,f_,f_,f_,f_,f_] rfl rfl (bh_ HT_.out (by kernel_rfl)) (by decide) (fun K hK => ?_)
 (first | refine goes_ Try.func47 (by kernel_rfl) rfl #[.int .i64 a2_0, .int .i64 t105, .int .i64 t106] (by rfl) rfl rfl (by first | rfl | (simp only [lma_, lmc_, lmn_]; first | done | rfl)) ?_ | refine RPW.by_ Try.func47 (by kernel_rfl) rfl #[.int .i64 a2_0, .int .i64 t105, .int .i64 t106] (by rfl) rfl rfl rfl (by first | rfl | (simp only [lma_, lmc_, lmn_]; first | done | rfl)) ?_ | refine RPW.bz_ Try.func47 (by kernel_rfl) rfl #[.int .i64 a2_0, .int .i64 t105, .int .i64 t106] (by rfl) rfl rfl rfl (by first | rfl | (simp only [lma_, lmc_, lmn_]; first | done | rfl)) ?_)
 with_reducible refine (ao_.calls a2_0 t105 t106 true _ A8.out).mono ?_
 rintro e w' ⟨rfl, ⟨nd, rfl⟩⟩
 refine ⟨_, rfl, ?_⟩
 refine hK.out _ _ ⟨(ac_ BK101.out 0).trans rfl, (ac_ BK101.out 1).trans rfl, (ac_ BK102.out 0).trans rfl, (ac_ BK102.out 1).trans rfl, (ac_ BK103.out 0).trans rfl, (ac_ BK103.out 1).trans rfl⟩ (fun hHeld => ?_)
 clear hK K
 refine norm_ (a' := ?_) ?_ ?_
 rotate_left
 ·show Act.put _ (some 25) _ = _
  simp only [Act.put, lsa_, ls0_, ls1_, i64_w, i32_w]
  rfl
 refine pu 19 26 #[t_,t_,t_,t_,t_,t_,t_,t_,t_,t_,t_,t_,t_,t_,t_,t_,t_,t_,t_,t_,f_,f_,f_,f_,f_,f_,f_,f_,f_,f_,f_,f_,f_,f_,f_,f_] HT_ ?_
 refine pu 20 27 #[t_,t_,t_,t_,t_,t_,t_,t_,t_,t_,t_,t_,t_,t_,t_,t_,t_,t_,t_,t_,t_,f_,f_,f_,f_,f_,f_,f_,f_,f_,f_,f_,f_,f_,f_,f_] HT_ ?_
 refine pu 21 28 #[t_,t_,t_,t_,t_,t_,t_,t_,t_,t_,t_,t_,t_,t_,t_,t_,t_,t_,t_,t_,t_,t_,f_,f_,f_,f_,f_,f_,f_,f_,f_,f_,f_,f_,f_,f_] HT_ ?_
 refine pu 23 30 #[t_,t_,t_,t_,t_,t_,t_,t_,t_,t_,t_,t_,t_,t_,t_,t_,t_,t_,t_,t_,t_,t_,f_,t_,f_,f_,f_,f_,f_,f_,f_,f_,f_,f_,f_,f_] HT_ ?_
 refine pu 25 32 #[t_,t_,t_,t_,t_,t_,t_,t_,t_,t_,t_,t_,t_,t_,t_,t_,t_,t_,t_,t_,t_,t_,f_,t_,f_,t_,f_,f_,f_,f_,f_,f_,f_,f_,f_,f_] HT_ ?_
 refine pu 28 35 #[t_,t_,t_,t_,t_,t_,t_,t_,t_,t_,t_,t_,t_,t_,t_,t_,t_,t_,t_,t_,t_,t_,f_,t_,f_,t_,f_,f_,t_,f_,f_,f_,f_,f_,f_,f_] HT_ ?_
 refine pu 30 37 #[t_,t_,t_,t_,t_,t_,t_,t_,t_,t_,t_,t_,t_,t_,t_,t_,t_,t_,t_,t_,t_,t_,f_,t_,f_,t_,f_,f_,t_,f_,t_,f_,f_,f_,f_,f_] HT_ ?_
 refine tk 22 29 #[t_,t_,t_,t_,t_,t_,t_,t_,t_,t_,t_,t_,t_,t_,t_,t_,t_,t_,t_,t_,t_,t_,t_,t_,f_,t_,f_,f_,t_,f_,t_,f_,f_,f_,f_,f_] HT_ HW_ hHeld ?_ (hv := by rintro w' ⟨s0, s1, s2, s3, s4, s5⟩; go_simp; with_reducible rfl)
 refine tk 24 31 #[t_,t_,t_,t_,t_,t_,t_,t_,t_,t_,t_,t_,t_,t_,t_,t_,t_,t_,t_,t_,t_,t_,t_,t_,t_,t_,f_,f_,t_,f_,t_,f_,f_,f_,f_,f_] HT_ HW_ hHeld ?_ (hv := by rintro w' ⟨s0, s1, s2, s3, s4, s5⟩; go_simp; with_reducible rfl)
 refine tk 26 33 #[t_,t_,t_,t_,t_,t_,t_,t_,t_,t_,t_,t_,t_,t_,t_,t_,t_,t_,t_,t_,t_,t_,t_,t_,t_,t_,t_,f_,t_,f_,t_,f_,f_,f_,f_,f_] HT_ HW_ hHeld ?_ (hv := by rintro w' ⟨s0, s1, s2, s3, s4, s5⟩; go_simp; with_reducible rfl)
 refine tk 29 36 #[t_,t_,t_,t_,t_,t_,t_,t_,t_,t_,t_,t_,t_,t_,t_,t_,t_,t_,t_,t_,t_,t_,t_,t_,t_,t_,t_,f_,t_,t_,t_,f_,f_,f_,f_,f_] HT_ HW_ hHeld ?_ (hv := by rintro w' ⟨s0, s1, s2, s3, s4, s5⟩; go_simp; with_reducible rfl)
 refine tk 31 38 #[t_,t_,t_,t_,t_,t_,t_,t_,t_,t_,t_,t_,t_,t_,t_,t_,t_,t_,t_,t_,t_,t_,t_,t_,t_,t_,t_,f_,t_,t_,t_,t_,f_,f_,f_,f_] HT_ HW_ hHeld ?_ (hv := by rintro w' ⟨s0, s1, s2, s3, s4, s5⟩; go_simp; with_reducible rfl)
 refine one_ (i := 27) (N := some 34) #[t_,t_,t_,t_,t_,t_,t_,t_,t_,t_,t_,t_,t_,t_,t_,t_,t_,t_,t_,t_,t_,t_,t_,t_,t_,t_,t_,t_,t_,t_,t_,t_,f_,f_,f_,f_] rfl rfl (bh_ HT_.out (by kernel_rfl)) (by decide) (fun K hK => ?_)
 (first | refine goes_ Try.func85 (by kernel_rfl) rfl #[.int .i64 a0_1, .int .i64 a1_1] (by rfl) rfl rfl (by first | rfl | (simp only [lma_, lmc_, lmn_]; first | done | rfl)) ?_ | refine RPW.by_ Try.func85 (by kernel_rfl) rfl #[.int .i64 a0_1, .int .i64 a1_1] (by rfl) rfl rfl rfl (by first | rfl | (simp only [lma_, lmc_, lmn_]; first | done | rfl)) ?_ | refine RPW.bz_ Try.func85 (by kernel_rfl) rfl #[.int .i64 a0_1, .int .i64 a1_1] (by rfl) rfl rfl rfl (by first | rfl | (simp only [lma_, lmc_, lmn_]; first | done | rfl)) ?_)
 with_reducible refine (cf_.calls a0_1 a1_1 t108 _ A10.out).mono ?_
 rintro e w' ⟨rfl, ⟨nd, rfl⟩⟩
 refine ⟨_, rfl, ?_⟩
 refine hK.out _ _ ⟨(ac_ BK101.out 0).trans rfl, (ac_ BK101.out 1).trans rfl, (ac_ BK102.out 0).trans rfl, (ac_ BK102.out 1).trans rfl, (ac_ BK103.out 0).trans rfl, (ac_ BK103.out 1).trans rfl⟩ (fun hHeld => ?_)
 clear hK K
 refine norm_ (a' := ?_) ?_ ?_
 rotate_left
 ·show Act.put _ (some 34) _ = _
  simp only [Act.put, lsa_, ls0_, ls1_, i64_w, i32_w]
  rfl
 refine one_ (i := 32) (N := some 39) #[t_,t_,t_,t_,t_,t_,t_,t_,t_,t_,t_,t_,t_,t_,t_,t_,t_,t_,t_,t_,t_,t_,t_,t_,t_,t_,t_,t_,t_,t_,t_,t_,t_,f_,f_,f_] rfl rfl (bh_ HT_.out (by kernel_rfl)) (by decide) (fun K hK => ?_)
 (first | refine goes_ Try.func86 (by kernel_rfl) rfl #[.int .i64 a0_1, .int .i64 a1_1] (by rfl) rfl rfl (by first | rfl | (simp only [lma_, lmc_, lmn_]; first | done | rfl)) ?_ | refine RPW.by_ Try.func86 (by kernel_rfl) rfl #[.int .i64 a0_1, .int .i64 a1_1] (by rfl) rfl rfl rfl (by first | rfl | (simp only [lma_, lmc_, lmn_]; first | done | rfl)) ?_ | refine RPW.bz_ Try.func86 (by kernel_rfl) rfl #[.int .i64 a0_1, .int .i64 a1_1] (by rfl) rfl rfl rfl (by first | rfl | (simp only [lma_, lmc_, lmn_]; first | done | rfl)) ?_)
 with_reducible refine (cg_.calls a0_1 a1_1 t109 _ A11.out).mono ?_
 rintro e w' ⟨rfl, ⟨nd, rfl⟩⟩
 refine ⟨_, rfl, ?_⟩
 refine hK.out _ _ ⟨(ac_ BK101.out 0).trans rfl, (ac_ BK101.out 1).trans rfl, (ac_ BK102.out 0).trans rfl, (ac_ BK102.out 1).trans rfl, (ac_ BK103.out 0).trans rfl, (ac_ BK103.out 1).trans rfl⟩ (fun hHeld => ?_)
 clear hK K
 refine norm_ (a' := ?_) ?_ ?_
 rotate_left
 ·show Act.put _ (some 39) _ = _
  simp only [Act.put, lsa_, ls0_, ls1_, i64_w, i32_w]
  rfl
 refine one_ (i := 33) (N := some 40) #[t_,t_,t_,t_,t_,t_,t_,t_,t_,t_,t_,t_,t_,t_,t_,t_,t_,t_,t_,t_,t_,t_,t_,t_,t_,t_,t_,t_,t_,t_,t_,t_,t_,t_,f_,f_] rfl rfl (bh_ HT_.out (by kernel_rfl)) (by decide) (fun K hK => ?_)
 (first | refine goes_ Try.func47 (by kernel_rfl) rfl #[.int .i64 a2_1, .int .i64 t108, .int .i64 t109] (by rfl) rfl rfl (by first | rfl | (simp only [lma_, lmc_, lmn_]; first | done | rfl)) ?_ | refine RPW.by_ Try.func47 (by kernel_rfl) rfl #[.int .i64 a2_1, .int .i64 t108, .int .i64 t109] (by rfl) rfl rfl rfl (by first | rfl | (simp only [lma_, lmc_, lmn_]; first | done | rfl)) ?_ | refine RPW.bz_ Try.func47 (by kernel_rfl) rfl #[.int .i64 a2_1, .int .i64 t108, .int .i64 t109] (by rfl) rfl rfl rfl (by first | rfl | (simp only [lma_, lmc_, lmn_]; first | done | rfl)) ?_)
 with_reducible refine (ao_.calls a2_1 t108 t109 t110 _ A12.out).mono ?_
 rintro e w' ⟨rfl, ⟨nd, rfl⟩⟩
 refine ⟨_, rfl, ?_⟩
 refine hK.out _ _ ⟨(ac_ BK101.out 0).trans rfl, (ac_ BK101.out 1).trans rfl, (ac_ BK102.out 0).trans rfl, (ac_ BK102.out 1).trans rfl, (ac_ BK103.out 0).trans rfl, (ac_ BK103.out 1).trans rfl⟩ (fun hHeld => ?_)
 clear hK K
 refine norm_ (a' := ?_) ?_ ?_
 rotate_left
 ·show Act.put _ (some 40) _ = _
  simp only [Act.put, lsa_, ls0_, ls1_, i64_w, i32_w]
  rfl
 refine pu 34 41 #[t_,t_,t_,t_,t_,t_,t_,t_,t_,t_,t_,t_,t_,t_,t_,t_,t_,t_,t_,t_,t_,t_,t_,t_,t_,t_,t_,t_,t_,t_,t_,t_,t_,t_,t_,f_] HT_ ?_
 refine pu 35 6 #[t_,t_,t_,t_,t_,t_,t_,t_,t_,t_,t_,t_,t_,t_,t_,t_,t_,t_,t_,t_,t_,t_,t_,t_,t_,t_,t_,t_,t_,t_,t_,t_,t_,t_,t_,t_] HT_ ?_
 refine done_ (bS_ HT_.out (by kernel_rfl)) ?_
 try go_wp2
 go_ret
 exact ⟨by first | rfl | (simp [*, ah_, ai_] <;> rfl), bq⟩
def aX_.f (a0_0 : Int) (a0_1 : Int) (a1_0 : Int) (a1_1 : Int) (a2_0 : Int) (a2_1 : Int) (a3_0 : Int) (a3_1 : Int) : Option (Bool) := (bg_.f a0_0 a0_1 a1_0 a1_1 a2_0 a2_1).bind fun t105 => ((bg_.f a0_0 a0_1 a1_0 a1_1 a3_0 a3_1).bind fun t106 => (if (wrap64 (t105 * t106)) < 0 then ((bg_.f a2_0 a2_1 a3_0 a3_1 a0_0 a0_1).bind fun t107 => ((bg_.f a2_0 a2_1 a3_0 a3_1 a1_0 a1_1).bind fun t108 => (some (decide ((wrap64 (t107 * t108)) < 0))))) else (some false)))
def aX_.T1 : Bool × List (List Nat × List Nat) := (true, [([], []), ([], []), ([], []), ([0, 1, 2], [0, 1, 2]), ([], []), ([], []), ([], []), ([4, 5, 6, 3], [4, 5, 6]), ([3, 7], [3, 7]), ([8], [8]), ([9, 7], [9]), ([10], [10]), ([10], [10]), ([10], [10]), ([11, 12, 13, 10, 10], [10, 11, 12, 13]), ([10], [10]), ([10], [10]), ([10], [10]), ([15, 16, 17, 14, 10], [10, 15, 16, 17]), ([14, 18, 10], [10, 14, 18]), ([19, 10], [10, 19]), ([10, 20], [10, 20]), ([21, 18, 0, 1, 2, 3, 4, 5, 6, 7, 8, 9, 10, 11, 12, 13, 14, 15, 16, 17, 18, 19, 20, 21], [21])])
def aX_.B1 : List Nat := [0, 0, 0, 7, 0, 0, 0, 127, 255, 511, 1023, 2047, 2047, 2047, 16383, 2047, 2047, 2047, 262143, 524287, 1048575, 2097151, 4194303]
theorem aX_.tab1 : rtab .any (opsOf Try.f87 1) = aX_.T1 := by kernel_rfl
theorem aX_.bits1 : cj_ aX_.T1.2 aX_.B1 = true := by kernel_rfl
set_option maxHeartbeats 8000000 in
set_option maxRecDepth 100000 in
theorem aX_.calls (a0_0 : Int) (a0_1 : Int) (a1_0 : Int) (a1_1 : Int) (a2_0 : Int) (a2_1 : Int) (a3_0 : Int) (a3_1 : Int) (r : Bool) (w : World) (h : aX_.f a0_0 a0_1 a1_0 a1_1 a2_0 a2_1 a3_0 a3_1 = some r) :
  Calls Try.prog 87 #[.agg #[.int .i64 a0_0, .int .i64 a0_1], .agg #[.int .i64 a1_0, .int .i64 a1_1], .agg #[.int .i64 a2_0, .int .i64 a2_1], .agg #[.int .i64 a3_0, .int .i64 a3_1]] w fun e w' => e = .returned (.bool r) ∧ Below w.heap.size w w' := by
 have hu81 := Try.underlying81
 have HB := Aside0.mk (Below.refl w.heap.size w)
 have H : ((bg_.f a0_0 a0_1 a1_0 a1_1 a2_0 a2_1).bind fun t105 => ((bg_.f a0_0 a0_1 a1_0 a1_1 a3_0 a3_1).bind fun t106 => (if (wrap64 (t105 * t106)) < 0 then ((bg_.f a2_0 a2_1 a3_0 a3_1 a0_0 a0_1).bind fun t107 => ((bg_.f a2_0 a2_1 a3_0 a3_1 a1_0 a1_1).bind fun t108 => (some (decide ((wrap64 (t107 * t108)) < 0))))) else (some false)))) = some r := h
 clear h
 replace H := Option.bind_eq_some_iff.mp H
 obtain ⟨t105, A50, H⟩ := H
 (try dsimp only at H)
 have A5 := Aside0.mk A50
 clear A50
 replace H := Option.bind_eq_some_iff.mp H
 obtain ⟨t106, A60, H⟩ := H
 (try dsimp only at H)
 have A6 := Aside0.mk A60
 clear A60
 by_cases c7 : (wrap64 (t105 * t106)) < 0
 rotate_left
 ·rw [if_neg c7] at H
  have c7b0 : decide ((wrap64 (t105 * t106)) < 0) = false := decide_eq_false c7
  clear c7
  obtain rfl := Option.some.inj H
  go_enter Try.func87, Try.ntmps87
  try go_wp2_with (first | ((with_reducible refine al_ (N := 4) rfl ?_); refine ak_ ?hg (N := 4) ?hd (cs := #[.int .i64 a0_0, .int .i64 a0_1]) (t := 81) ?hr ?_; (case hd => rfl); (case hg => rfl); (case hr => (go_simp; try rfl)); intro gb101 hg w19 hbox hb; have BK101 := Aside0.mk (hbox); have GW101 := Aside0.mk ((by rw [hg]; exact (ae_ (bz HB.out)) : w.heap.size ≤ gb101)); have GE101 := GW101; replace HB := Aside0.mk (ad_ (bz HB.out) hb); clear hb hbox hg) | ((with_reducible refine al_ (N := 5) rfl ?_); refine ak_ ?hg (N := 5) ?hd (cs := #[.int .i64 a1_0, .int .i64 a1_1]) (t := 81) ?hr ?_; (case hd => rfl); (case hg => rfl); (case hr => (go_simp; try rfl)); intro gb102 hg w20 hbox hb; have BK102 := Aside0.mk (hbox); have GW102 := Aside0.mk ((by rw [hg]; exact (ae_ (bq)) : w.heap.size ≤ gb102)); have GE102 := GW102; replace HB := Aside0.mk (ad_ (bq) hb); have NB101_102 := Aside0.mk ((by rw [hg]; exact Nat.ne_of_lt (aj_ (kz BK101.out)) : gb101 ≠ gb102)); have NB102_101 := Aside0.mk ((by rw [hg]; exact Nat.ne_of_gt (aj_ (kz BK101.out)) : gb102 ≠ gb101)); replace BK101 := Aside0.mk (aa_ (kz BK101.out) hb); clear hb hbox hg) | ((with_reducible refine al_ (N := 6) rfl ?_); refine ak_ ?hg (N := 6) ?hd (cs := #[.int .i64 a2_0, .int .i64 a2_1]) (t := 81) ?hr ?_; (case hd => rfl); (case hg => rfl); (case hr => (go_simp; try rfl)); intro gb103 hg w21 hbox hb; have BK103 := Aside0.mk (hbox); have GW103 := Aside0.mk ((by rw [hg]; exact (ae_ (bq)) : w.heap.size ≤ gb103)); have GE103 := GW103; replace HB := Aside0.mk (ad_ (bq) hb); have NB101_103 := Aside0.mk ((by rw [hg]; exact Nat.ne_of_lt (aj_ (kz BK101.out)) : gb101 ≠ gb103)); have NB103_101 := Aside0.mk ((by rw [hg]; exact Nat.ne_of_gt (aj_ (kz BK101.out)) : gb103 ≠ gb101)); replace BK101 := Aside0.mk (aa_ (kz BK101.out) hb); have NB102_103 := Aside0.mk ((by rw [hg]; exact Nat.ne_of_lt (aj_ (kz BK102.out)) : gb102 ≠ gb103)); have NB103_102 := Aside0.mk ((by rw [hg]; exact Nat.ne_of_gt (aj_ (kz BK102.out)) : gb103 ≠ gb102)); replace BK102 := Aside0.mk (aa_ (kz BK102.out) hb); clear hb hbox hg) | ((with_reducible refine al_ (N := 7) rfl ?_); refine ak_ ?hg (N := 7) ?hd (cs := #[.int .i64 a3_0, .int .i64 a3_1]) (t := 81) ?hr ?_; (case hd => rfl); (case hg => rfl); (case hr => (go_simp; try rfl)); intro gb104 hg w22 hbox hb; have BK104 := Aside0.mk (hbox); have GW104 := Aside0.mk ((by rw [hg]; exact (ae_ (bq)) : w.heap.size ≤ gb104)); have GE104 := GW104; replace HB := Aside0.mk (ad_ (bq) hb); have NB101_104 := Aside0.mk ((by rw [hg]; exact Nat.ne_of_lt (aj_ (kz BK101.out)) : gb101 ≠ gb104)); have NB104_101 := Aside0.mk ((by rw [hg]; exact Nat.ne_of_gt (aj_ (kz BK101.out)) : gb104 ≠ gb101)); replace BK101 := Aside0.mk (aa_ (kz BK101.out) hb); have NB102_104 := Aside0.mk ((by rw [hg]; exact Nat.ne_of_lt (aj_ (kz BK102.out)) : gb102 ≠ gb104)); have NB104_102 := Aside0.mk ((by rw [hg]; exact Nat.ne_of_gt (aj_ (kz BK102.out)) : gb104 ≠ gb102)); replace BK102 := Aside0.mk (aa_ (kz BK102.out) hb); have NB103_104 := Aside0.mk ((by rw [hg]; exact Nat.ne_of_lt (aj_ (kz BK103.out)) : gb103 ≠ gb104)); have NB104_103 := Aside0.mk ((by rw [hg]; exact Nat.ne_of_gt (aj_ (kz BK103.out)) : gb104 ≠ gb103)); replace BK103 := Aside0.mk (aa_ (kz BK103.out) hb); clear hb hbox hg))
  have n0_ := Aside0.mk (av_ BK101.out)
  have n1_ := Aside0.mk (av_ BK102.out)
  have n2_ := Aside0.mk (av_ BK103.out)
  have n3_ := Aside0.mk (av_ BK104.out)
  have n4_ := Aside0.mk (bD_ HB.out)
  clear BK101
  clear BK102
  clear BK103
  clear BK104
  clear HB
  have BK101 := n0_
  have BK102 := n1_
  have BK103 := n2_
  have BK104 := n3_
  have HB := n4_
  clear n0_ n1_ n2_ n3_ n4_
  refine cl_ (n := 23) (S := fun w' => w'.cell? ⟨gb101, 0, none⟩ = some (.int .i64 a0_0) ∧ w'.cell? ⟨gb101, 1, none⟩ = some (.int .i64 a0_1) ∧ w'.cell? ⟨gb102, 0, none⟩ = some (.int .i64 a1_0) ∧ w'.cell? ⟨gb102, 1, none⟩ = some (.int .i64 a1_1) ∧ w'.cell? ⟨gb103, 0, none⟩ = some (.int .i64 a2_0) ∧ w'.cell? ⟨gb103, 1, none⟩ = some (.int .i64 a2_1) ∧ w'.cell? ⟨gb104, 0, none⟩ = some (.int .i64 a3_0) ∧ w'.cell? ⟨gb104, 1, none⟩ = some (.int .i64 a3_1)) (ds := []) #[f_,f_,f_,f_,f_,f_,f_,f_,f_,f_,f_,f_,f_,f_,f_,f_,f_,f_,f_,f_,f_,f_,f_] (by kernel_rfl) rfl rfl ⟨(ac_ BK101.out 0).trans rfl, (ac_ BK101.out 1).trans rfl, (ac_ BK102.out 0).trans rfl, (ac_ BK102.out 1).trans rfl, (ac_ BK103.out 0).trans rfl, (ac_ BK103.out 1).trans rfl, (ac_ BK104.out 0).trans rfl, (ac_ BK104.out 1).trans rfl⟩ (fun hHeld => ?_); refine bo_ aX_.tab1 aX_.bits1 (fun HT_ HW_ => ?_)
  generalize w22.drew = w23 at BK101 BK102 BK103 BK104 HB hHeld ⊢
  refine tk 0 9 #[t_,f_,f_,f_,f_,f_,f_,f_,f_,f_,f_,f_,f_,f_,f_,f_,f_,f_,f_,f_,f_,f_,f_] HT_ HW_ hHeld ?_ (hv := by rintro w' ⟨s0, s1, s2, s3, s4, s5, s6, s7⟩; go_simp; with_reducible rfl)
  refine tk 1 10 #[t_,t_,f_,f_,f_,f_,f_,f_,f_,f_,f_,f_,f_,f_,f_,f_,f_,f_,f_,f_,f_,f_,f_] HT_ HW_ hHeld ?_ (hv := by rintro w' ⟨s0, s1, s2, s3, s4, s5, s6, s7⟩; go_simp; with_reducible rfl)
  refine tk 2 11 #[t_,t_,t_,f_,f_,f_,f_,f_,f_,f_,f_,f_,f_,f_,f_,f_,f_,f_,f_,f_,f_,f_,f_] HT_ HW_ hHeld ?_ (hv := by rintro w' ⟨s0, s1, s2, s3, s4, s5, s6, s7⟩; go_simp; with_reducible rfl)
  refine tk 4 13 #[t_,t_,t_,f_,t_,f_,f_,f_,f_,f_,f_,f_,f_,f_,f_,f_,f_,f_,f_,f_,f_,f_,f_] HT_ HW_ hHeld ?_ (hv := by rintro w' ⟨s0, s1, s2, s3, s4, s5, s6, s7⟩; go_simp; with_reducible rfl)
  refine tk 5 14 #[t_,t_,t_,f_,t_,t_,f_,f_,f_,f_,f_,f_,f_,f_,f_,f_,f_,f_,f_,f_,f_,f_,f_] HT_ HW_ hHeld ?_ (hv := by rintro w' ⟨s0, s1, s2, s3, s4, s5, s6, s7⟩; go_simp; with_reducible rfl)
  refine tk 6 15 #[t_,t_,t_,f_,t_,t_,t_,f_,f_,f_,f_,f_,f_,f_,f_,f_,f_,f_,f_,f_,f_,f_,f_] HT_ HW_ hHeld ?_ (hv := by rintro w' ⟨s0, s1, s2, s3, s4, s5, s6, s7⟩; go_simp; with_reducible rfl)
  refine one_ (i := 3) (N := some 12) #[t_,t_,t_,t_,t_,t_,t_,f_,f_,f_,f_,f_,f_,f_,f_,f_,f_,f_,f_,f_,f_,f_,f_] rfl rfl (bh_ HT_.out (by kernel_rfl)) (by decide) (fun K hK => ?_)
  (first | refine goes_ Try.func84 (by kernel_rfl) rfl #[.agg #[.int .i64 a0_0, .int .i64 a0_1], .agg #[.int .i64 a1_0, .int .i64 a1_1], .agg #[.int .i64 a2_0, .int .i64 a2_1]] (by rfl) rfl rfl (by first | rfl | (simp only [lma_, lmc_, lmn_]; first | done | rfl)) ?_ | refine RPW.by_ Try.func84 (by kernel_rfl) rfl #[.agg #[.int .i64 a0_0, .int .i64 a0_1], .agg #[.int .i64 a1_0, .int .i64 a1_1], .agg #[.int .i64 a2_0, .int .i64 a2_1]] (by rfl) rfl rfl rfl (by first | rfl | (simp only [lma_, lmc_, lmn_]; first | done | rfl)) ?_ | refine RPW.bz_ Try.func84 (by kernel_rfl) rfl #[.agg #[.int .i64 a0_0, .int .i64 a0_1], .agg #[.int .i64 a1_0, .int .i64 a1_1], .agg #[.int .i64 a2_0, .int .i64 a2_1]] (by rfl) rfl rfl rfl (by first | rfl | (simp only [lma_, lmc_, lmn_]; first | done | rfl)) ?_)
  with_reducible refine (bg_.calls a0_0 a0_1 a1_0 a1_1 a2_0 a2_1 t105 _ A5.out).mono ?_
  rintro e w24 ⟨rfl, hb⟩
  refine ⟨_, rfl, ?_⟩
  have n0_ := Aside0.mk (aa_ (kz BK101.out) hb)
  have n1_ := Aside0.mk (aa_ (kz BK102.out) hb)
  have n2_ := Aside0.mk (aa_ (kz BK103.out) hb)
  have n3_ := Aside0.mk (aa_ (kz BK104.out) hb)
  have n4_ := Aside0.mk (ad_ (bq) hb)
  clear BK101
  clear BK102
  clear BK103
  clear BK104
  clear HB
  have BK101 := n0_
  have BK102 := n1_
  have BK103 := n2_
  have BK104 := n3_
  have HB := n4_
  clear n0_ n1_ n2_ n3_ n4_
  (try clear hb)
  refine hK.out _ _ ⟨(ac_ BK101.out 0).trans rfl, (ac_ BK101.out 1).trans rfl, (ac_ BK102.out 0).trans rfl, (ac_ BK102.out 1).trans rfl, (ac_ BK103.out 0).trans rfl, (ac_ BK103.out 1).trans rfl, (ac_ BK104.out 0).trans rfl, (ac_ BK104.out 1).trans rfl⟩ (fun hHeld => ?_)
  clear hK K
  refine norm_ (a' := ?_) ?_ ?_
  rotate_left
  ·show Act.put _ (some 12) _ = _
   simp only [Act.put, lsa_, ls0_, ls1_, i64_w, i32_w]
   rfl
  refine one_ (i := 7) (N := some 16) #[t_,t_,t_,t_,t_,t_,t_,t_,f_,f_,f_,f_,f_,f_,f_,f_,f_,f_,f_,f_,f_,f_,f_] rfl rfl (bh_ HT_.out (by kernel_rfl)) (by decide) (fun K hK => ?_)
  (first | refine goes_ Try.func84 (by kernel_rfl) rfl #[.agg #[.int .i64 a0_0, .int .i64 a0_1], .agg #[.int .i64 a1_0, .int .i64 a1_1], .agg #[.int .i64 a3_0, .int .i64 a3_1]] (by rfl) rfl rfl (by first | rfl | (simp only [lma_, lmc_, lmn_]; first | done | rfl)) ?_ | refine RPW.by_ Try.func84 (by kernel_rfl) rfl #[.agg #[.int .i64 a0_0, .int .i64 a0_1], .agg #[.int .i64 a1_0, .int .i64 a1_1], .agg #[.int .i64 a3_0, .int .i64 a3_1]] (by rfl) rfl rfl rfl (by first | rfl | (simp only [lma_, lmc_, lmn_]; first | done | rfl)) ?_ | refine RPW.bz_ Try.func84 (by kernel_rfl) rfl #[.agg #[.int .i64 a0_0, .int .i64 a0_1], .agg #[.int .i64 a1_0, .int .i64 a1_1], .agg #[.int .i64 a3_0, .int .i64 a3_1]] (by rfl) rfl rfl rfl (by first | rfl | (simp only [lma_, lmc_, lmn_]; first | done | rfl)) ?_)
  with_reducible refine (bg_.calls a0_0 a0_1 a1_0 a1_1 a3_0 a3_1 t106 _ A6.out).mono ?_
  rintro e w25 ⟨rfl, hb⟩
  refine ⟨_, rfl, ?_⟩
  have n0_ := Aside0.mk (aa_ (kz BK101.out) hb)
  have n1_ := Aside0.mk (aa_ (kz BK102.out) hb)
  have n2_ := Aside0.mk (aa_ (kz BK103.out) hb)
  have n3_ := Aside0.mk (aa_ (kz BK104.out) hb)
  have n4_ := Aside0.mk (ad_ (bq) hb)
  clear BK101
  clear BK102
  clear BK103
  clear BK104
  clear HB
  have BK101 := n0_
  have BK102 := n1_
  have BK103 := n2_
  have BK104 := n3_
  have HB := n4_
  clear n0_ n1_ n2_ n3_ n4_
  (try clear hb)
  refine hK.out _ _ ⟨(ac_ BK101.out 0).trans rfl, (ac_ BK101.out 1).trans rfl, (ac_ BK102.out 0).trans rfl, (ac_ BK102.out 1).trans rfl, (ac_ BK103.out 0).trans rfl, (ac_ BK103.out 1).trans rfl, (ac_ BK104.out 0).trans rfl, (ac_ BK104.out 1).trans rfl⟩ (fun hHeld => ?_)
  clear hK K
  refine norm_ (a' := ?_) ?_ ?_
  rotate_left
  ·show Act.put _ (some 16) _ = _
   simp only [Act.put, lsa_, ls0_, ls1_, i64_w, i32_w]
   rfl
  refine pu 8 17 #[t_,t_,t_,t_,t_,t_,t_,t_,t_,f_,f_,f_,f_,f_,f_,f_,f_,f_,f_,f_,f_,f_,f_] HT_ ?_
  refine pu 9 18 #[t_,t_,t_,t_,t_,t_,t_,t_,t_,t_,f_,f_,f_,f_,f_,f_,f_,f_,f_,f_,f_,f_,f_] HT_ ?_
  refine pu 10 19 #[t_,t_,t_,t_,t_,t_,t_,t_,t_,t_,t_,f_,f_,f_,f_,f_,f_,f_,f_,f_,f_,f_,f_] HT_ ?_
  refine pn 11 20 #[t_,t_,t_,t_,t_,t_,t_,t_,t_,t_,t_,t_,f_,f_,f_,f_,f_,f_,f_,f_,f_,f_,f_] HT_ ?_
  refine pn 12 21 #[t_,t_,t_,t_,t_,t_,t_,t_,t_,t_,t_,t_,t_,f_,f_,f_,f_,f_,f_,f_,f_,f_,f_] HT_ ?_
  refine pn 13 22 #[t_,t_,t_,t_,t_,t_,t_,t_,t_,t_,t_,t_,t_,t_,f_,f_,f_,f_,f_,f_,f_,f_,f_] HT_ ?_
  refine pn 14 23 #[t_,t_,t_,t_,t_,t_,t_,t_,t_,t_,t_,t_,t_,t_,t_,f_,f_,f_,f_,f_,f_,f_,f_] HT_ ?_
  refine pn 15 24 #[t_,t_,t_,t_,t_,t_,t_,t_,t_,t_,t_,t_,t_,t_,t_,t_,f_,f_,f_,f_,f_,f_,f_] HT_ ?_
  refine pn 16 25 #[t_,t_,t_,t_,t_,t_,t_,t_,t_,t_,t_,t_,t_,t_,t_,t_,t_,f_,f_,f_,f_,f_,f_] HT_ ?_
  refine pn 17 26 #[t_,t_,t_,t_,t_,t_,t_,t_,t_,t_,t_,t_,t_,t_,t_,t_,t_,t_,f_,f_,f_,f_,f_] HT_ ?_
  refine pn 18 27 #[t_,t_,t_,t_,t_,t_,t_,t_,t_,t_,t_,t_,t_,t_,t_,t_,t_,t_,t_,f_,f_,f_,f_] HT_ ?_
  refine pn 19 28 #[t_,t_,t_,t_,t_,t_,t_,t_,t_,t_,t_,t_,t_,t_,t_,t_,t_,t_,t_,t_,f_,f_,f_] HT_ ?_
  refine pn 20 29 #[t_,t_,t_,t_,t_,t_,t_,t_,t_,t_,t_,t_,t_,t_,t_,t_,t_,t_,t_,t_,t_,f_,f_] HT_ ?_
  refine pu 21 30 #[t_,t_,t_,t_,t_,t_,t_,t_,t_,t_,t_,t_,t_,t_,t_,t_,t_,t_,t_,t_,t_,t_,f_] HT_ ?_
  refine pu 22 8 #[t_,t_,t_,t_,t_,t_,t_,t_,t_,t_,t_,t_,t_,t_,t_,t_,t_,t_,t_,t_,t_,t_,t_] HT_ ?_
  refine done_ (bS_ HT_.out (by kernel_rfl)) ?_
  try go_wp2
  go_ret
  exact ⟨by first | rfl | (simp [*, ah_, ai_] <;> rfl), bq⟩
 rw [if_pos c7] at H
 have c7b0 : decide ((wrap64 (t105 * t106)) < 0) = true := decide_eq_true c7
 clear c7
 replace H := Option.bind_eq_some_iff.mp H
 obtain ⟨t107, A80, H⟩ := H
 (try dsimp only at H)
 have A8 := Aside0.mk A80
 clear A80
 replace H := Option.bind_eq_some_iff.mp H
 obtain ⟨t108, A90, H⟩ := H
 (try dsimp only at H)
 have A9 := Aside0.mk A90
 clear A90
 obtain rfl := Option.some.inj H
 go_enter Try.func87, Try.ntmps87
 try go_wp2_with (first | ((with_reducible refine al_ (N := 4) rfl ?_); refine ak_ ?hg (N := 4) ?hd (cs := #[.int .i64 a0_0, .int .i64 a0_1]) (t := 81) ?hr ?_; (case hd => rfl); (case hg => rfl); (case hr => (go_simp; try rfl)); intro gb101 hg w10 hbox hb; have BK101 := Aside0.mk (hbox); have GW101 := Aside0.mk ((by rw [hg]; exact (ae_ (bz HB.out)) : w.heap.size ≤ gb101)); have GE101 := GW101; replace HB := Aside0.mk (ad_ (bz HB.out) hb); clear hb hbox hg) | ((with_reducible refine al_ (N := 5) rfl ?_); refine ak_ ?hg (N := 5) ?hd (cs := #[.int .i64 a1_0, .int .i64 a1_1]) (t := 81) ?hr ?_; (case hd => rfl); (case hg => rfl); (case hr => (go_simp; try rfl)); intro gb102 hg w11 hbox hb; have BK102 := Aside0.mk (hbox); have GW102 := Aside0.mk ((by rw [hg]; exact (ae_ (bq)) : w.heap.size ≤ gb102)); have GE102 := GW102; replace HB := Aside0.mk (ad_ (bq) hb); have NB101_102 := Aside0.mk ((by rw [hg]; exact Nat.ne_of_lt (aj_ (kz BK101.out)) : gb101 ≠ gb102)); have NB102_101 := Aside0.mk ((by rw [hg]; exact Nat.ne_of_gt (aj_ (kz BK101.out)) : gb102 ≠ gb101)); replace BK101 := Aside0.mk (aa_ (kz BK101.out) hb); clear hb hbox hg) | ((with_reducible refine al_ (N := 6) rfl ?_); refine ak_ ?hg (N := 6) ?hd (cs := #[.int .i64 a2_0, .int .i64 a2_1]) (t := 81) ?hr ?_; (case hd => rfl); (case hg => rfl); (case hr => (go_simp; try rfl)); intro gb103 hg w12 hbox hb; have BK103 := Aside0.mk (hbox); have GW103 := Aside0.mk ((by rw [hg]; exact (ae_ (bq)) : w.heap.size ≤ gb103)); have GE103 := GW103; replace HB := Aside0.mk (ad_ (bq) hb); have NB101_103 := Aside0.mk ((by rw [hg]; exact Nat.ne_of_lt (aj_ (kz BK101.out)) : gb101 ≠ gb103)); have NB103_101 := Aside0.mk ((by rw [hg]; exact Nat.ne_of_gt (aj_ (kz BK101.out)) : gb103 ≠ gb101)); replace BK101 := Aside0.mk (aa_ (kz BK101.out) hb); have NB102_103 := Aside0.mk ((by rw [hg]; exact Nat.ne_of_lt (aj_ (kz BK102.out)) : gb102 ≠ gb103)); have NB103_102 := Aside0.mk ((by rw [hg]; exact Nat.ne_of_gt (aj_ (kz BK102.out)) : gb103 ≠ gb102)); replace BK102 := Aside0.mk (aa_ (kz BK102.out) hb); clear hb hbox hg) | ((with_reducible refine al_ (N := 7) rfl ?_); refine ak_ ?hg (N := 7) ?hd (cs := #[.int .i64 a3_0, .int .i64 a3_1]) (t := 81) ?hr ?_; (case hd => rfl); (case hg => rfl); (case hr => (go_simp; try rfl)); intro gb104 hg w13 hbox hb; have BK104 := Aside0.mk (hbox); have GW104 := Aside0.mk ((by rw [hg]; exact (ae_ (bq)) : w.heap.size ≤ gb104)); have GE104 := GW104; replace HB := Aside0.mk (ad_ (bq) hb); have NB101_104 := Aside0.mk ((by rw [hg]; exact Nat.ne_of_lt (aj_ (kz BK101.out)) : gb101 ≠ gb104)); have NB104_101 := Aside0.mk ((by rw [hg]; exact Nat.ne_of_gt (aj_ (kz BK101.out)) : gb104 ≠ gb101)); replace BK101 := Aside0.mk (aa_ (kz BK101.out) hb); have NB102_104 := Aside0.mk ((by rw [hg]; exact Nat.ne_of_lt (aj_ (kz BK102.out)) : gb102 ≠ gb104)); have NB104_102 := Aside0.mk ((by rw [hg]; exact Nat.ne_of_gt (aj_ (kz BK102.out)) : gb104 ≠ gb102)); replace BK102 := Aside0.mk (aa_ (kz BK102.out) hb); have NB103_104 := Aside0.mk ((by rw [hg]; exact Nat.ne_of_lt (aj_ (kz BK103.out)) : gb103 ≠ gb104)); have NB104_103 := Aside0.mk ((by rw [hg]; exact Nat.ne_of_gt (aj_ (kz BK103.out)) : gb104 ≠ gb103)); replace BK103 := Aside0.mk (aa_ (kz BK103.out) hb); clear hb hbox hg))
 have n0_ := Aside0.mk (av_ BK101.out)
 have n1_ := Aside0.mk (av_ BK102.out)
 have n2_ := Aside0.mk (av_ BK103.out)
 have n3_ := Aside0.mk (av_ BK104.out)
 have n4_ := Aside0.mk (bD_ HB.out)
 clear BK101
 clear BK102
 clear BK103
 clear BK104
 clear HB
 have BK101 := n0_
 have BK102 := n1_
 have BK103 := n2_
 have BK104 := n3_
 have HB := n4_
 clear n0_ n1_ n2_ n3_ n4_
 refine cl_ (n := 23) (S := fun w' => w'.cell? ⟨gb101, 0, none⟩ = some (.int .i64 a0_0) ∧ w'.cell? ⟨gb101, 1, none⟩ = some (.int .i64 a0_1) ∧ w'.cell? ⟨gb102, 0, none⟩ = some (.int .i64 a1_0) ∧ w'.cell? ⟨gb102, 1, none⟩ = some (.int .i64 a1_1) ∧ w'.cell? ⟨gb103, 0, none⟩ = some (.int .i64 a2_0) ∧ w'.cell? ⟨gb103, 1, none⟩ = some (.int .i64 a2_1) ∧ w'.cell? ⟨gb104, 0, none⟩ = some (.int .i64 a3_0) ∧ w'.cell? ⟨gb104, 1, none⟩ = some (.int .i64 a3_1)) (ds := []) #[f_,f_,f_,f_,f_,f_,f_,f_,f_,f_,f_,f_,f_,f_,f_,f_,f_,f_,f_,f_,f_,f_,f_] (by kernel_rfl) rfl rfl ⟨(ac_ BK101.out 0).trans rfl, (ac_ BK101.out 1).trans rfl, (ac_ BK102.out 0).trans rfl, (ac_ BK102.out 1).trans rfl, (ac_ BK103.out 0).trans rfl, (ac_ BK103.out 1).trans rfl, (ac_ BK104.out 0).trans rfl, (ac_ BK104.out 1).trans rfl⟩ (fun hHeld => ?_); refine bo_ aX_.tab1 aX_.bits1 (fun HT_ HW_ => ?_)
 generalize w13.drew = w14 at BK101 BK102 BK103 BK104 HB hHeld ⊢
 refine tk 0 9 #[t_,f_,f_,f_,f_,f_,f_,f_,f_,f_,f_,f_,f_,f_,f_,f_,f_,f_,f_,f_,f_,f_,f_] HT_ HW_ hHeld ?_ (hv := by rintro w' ⟨s0, s1, s2, s3, s4, s5, s6, s7⟩; go_simp; with_reducible rfl)
 refine tk 1 10 #[t_,t_,f_,f_,f_,f_,f_,f_,f_,f_,f_,f_,f_,f_,f_,f_,f_,f_,f_,f_,f_,f_,f_] HT_ HW_ hHeld ?_ (hv := by rintro w' ⟨s0, s1, s2, s3, s4, s5, s6, s7⟩; go_simp; with_reducible rfl)
 refine tk 2 11 #[t_,t_,t_,f_,f_,f_,f_,f_,f_,f_,f_,f_,f_,f_,f_,f_,f_,f_,f_,f_,f_,f_,f_] HT_ HW_ hHeld ?_ (hv := by rintro w' ⟨s0, s1, s2, s3, s4, s5, s6, s7⟩; go_simp; with_reducible rfl)
 refine tk 4 13 #[t_,t_,t_,f_,t_,f_,f_,f_,f_,f_,f_,f_,f_,f_,f_,f_,f_,f_,f_,f_,f_,f_,f_] HT_ HW_ hHeld ?_ (hv := by rintro w' ⟨s0, s1, s2, s3, s4, s5, s6, s7⟩; go_simp; with_reducible rfl)
 refine tk 5 14 #[t_,t_,t_,f_,t_,t_,f_,f_,f_,f_,f_,f_,f_,f_,f_,f_,f_,f_,f_,f_,f_,f_,f_] HT_ HW_ hHeld ?_ (hv := by rintro w' ⟨s0, s1, s2, s3, s4, s5, s6, s7⟩; go_simp; with_reducible rfl)
 refine tk 6 15 #[t_,t_,t_,f_,t_,t_,t_,f_,f_,f_,f_,f_,f_,f_,f_,f_,f_,f_,f_,f_,f_,f_,f_] HT_ HW_ hHeld ?_ (hv := by rintro w' ⟨s0, s1, s2, s3, s4, s5, s6, s7⟩; go_simp; with_reducible rfl)
 refine one_ (i := 3) (N := some 12) #[t_,t_,t_,t_,t_,t_,t_,f_,f_,f_,f_,f_,f_,f_,f_,f_,f_,f_,f_,f_,f_,f_,f_] rfl rfl (bh_ HT_.out (by kernel_rfl)) (by decide) (fun K hK => ?_)
 (first | refine goes_ Try.func84 (by kernel_rfl) rfl #[.agg #[.int .i64 a0_0, .int .i64 a0_1], .agg #[.int .i64 a1_0, .int .i64 a1_1], .agg #[.int .i64 a2_0, .int .i64 a2_1]] (by rfl) rfl rfl (by first | rfl | (simp only [lma_, lmc_, lmn_]; first | done | rfl)) ?_ | refine RPW.by_ Try.func84 (by kernel_rfl) rfl #[.agg #[.int .i64 a0_0, .int .i64 a0_1], .agg #[.int .i64 a1_0, .int .i64 a1_1], .agg #[.int .i64 a2_0, .int .i64 a2_1]] (by rfl) rfl rfl rfl (by first | rfl | (simp only [lma_, lmc_, lmn_]; first | done | rfl)) ?_ | refine RPW.bz_ Try.func84 (by kernel_rfl) rfl #[.agg #[.int .i64 a0_0, .int .i64 a0_1], .agg #[.int .i64 a1_0, .int .i64 a1_1], .agg #[.int .i64 a2_0, .int .i64 a2_1]] (by rfl) rfl rfl rfl (by first | rfl | (simp only [lma_, lmc_, lmn_]; first | done | rfl)) ?_)
 with_reducible refine (bg_.calls a0_0 a0_1 a1_0 a1_1 a2_0 a2_1 t105 _ A5.out).mono ?_
 rintro e w15 ⟨rfl, hb⟩
 refine ⟨_, rfl, ?_⟩
 have n0_ := Aside0.mk (aa_ (kz BK101.out) hb)
 have n1_ := Aside0.mk (aa_ (kz BK102.out) hb)
 have n2_ := Aside0.mk (aa_ (kz BK103.out) hb)
 have n3_ := Aside0.mk (aa_ (kz BK104.out) hb)
 have n4_ := Aside0.mk (ad_ (bq) hb)
 clear BK101
 clear BK102
 clear BK103
 clear BK104
 clear HB
 have BK101 := n0_
 have BK102 := n1_
 have BK103 := n2_
 have BK104 := n3_
 have HB := n4_
 clear n0_ n1_ n2_ n3_ n4_
 (try clear hb)
 refine hK.out _ _ ⟨(ac_ BK101.out 0).trans rfl, (ac_ BK101.out 1).trans rfl, (ac_ BK102.out 0).trans rfl, (ac_ BK102.out 1).trans rfl, (ac_ BK103.out 0).trans rfl, (ac_ BK103.out 1).trans rfl, (ac_ BK104.out 0).trans rfl, (ac_ BK104.out 1).trans rfl⟩ (fun hHeld => ?_)
 clear hK K
 refine norm_ (a' := ?_) ?_ ?_
 rotate_left
 ·show Act.put _ (some 12) _ = _
  simp only [Act.put, lsa_, ls0_, ls1_, i64_w, i32_w]
  rfl
 refine one_ (i := 7) (N := some 16) #[t_,t_,t_,t_,t_,t_,t_,t_,f_,f_,f_,f_,f_,f_,f_,f_,f_,f_,f_,f_,f_,f_,f_] rfl rfl (bh_ HT_.out (by kernel_rfl)) (by decide) (fun K hK => ?_)
 (first | refine goes_ Try.func84 (by kernel_rfl) rfl #[.agg #[.int .i64 a0_0, .int .i64 a0_1], .agg #[.int .i64 a1_0, .int .i64 a1_1], .agg #[.int .i64 a3_0, .int .i64 a3_1]] (by rfl) rfl rfl (by first | rfl | (simp only [lma_, lmc_, lmn_]; first | done | rfl)) ?_ | refine RPW.by_ Try.func84 (by kernel_rfl) rfl #[.agg #[.int .i64 a0_0, .int .i64 a0_1], .agg #[.int .i64 a1_0, .int .i64 a1_1], .agg #[.int .i64 a3_0, .int .i64 a3_1]] (by rfl) rfl rfl rfl (by first | rfl | (simp only [lma_, lmc_, lmn_]; first | done | rfl)) ?_ | refine RPW.bz_ Try.func84 (by kernel_rfl) rfl #[.agg #[.int .i64 a0_0, .int .i64 a0_1], .agg #[.int .i64 a1_0, .int .i64 a1_1], .agg #[.int .i64 a3_0, .int .i64 a3_1]] (by rfl) rfl rfl rfl (by first | rfl | (simp only [lma_, lmc_, lmn_]; first | done | rfl)) ?_)
 with_reducible refine (bg_.calls a0_0 a0_1 a1_0 a1_1 a3_0 a3_1 t106 _ A6.out).mono ?_
 rintro e w16 ⟨rfl, hb⟩
 refine ⟨_, rfl, ?_⟩
 have n0_ := Aside0.mk (aa_ (kz BK101.out) hb)
 have n1_ := Aside0.mk (aa_ (kz BK102.out) hb)
 have n2_ := Aside0.mk (aa_ (kz BK103.out) hb)
 have n3_ := Aside0.mk (aa_ (kz BK104.out) hb)
 have n4_ := Aside0.mk (ad_ (bq) hb)
 clear BK101
 clear BK102
 clear BK103
 clear BK104
 clear HB
 have BK101 := n0_
 have BK102 := n1_
 have BK103 := n2_
 have BK104 := n3_
 have HB := n4_
 clear n0_ n1_ n2_ n3_ n4_
 (try clear hb)
 refine hK.out _ _ ⟨(ac_ BK101.out 0).trans rfl, (ac_ BK101.out 1).trans rfl, (ac_ BK102.out 0).trans rfl, (ac_ BK102.out 1).trans rfl, (ac_ BK103.out 0).trans rfl, (ac_ BK103.out 1).trans rfl, (ac_ BK104.out 0).trans rfl, (ac_ BK104.out 1).trans rfl⟩ (fun hHeld => ?_)
 clear hK K
 refine norm_ (a' := ?_) ?_ ?_
 rotate_left
 ·show Act.put _ (some 16) _ = _
  simp only [Act.put, lsa_, ls0_, ls1_, i64_w, i32_w]
  rfl
 refine pu 8 17 #[t_,t_,t_,t_,t_,t_,t_,t_,t_,f_,f_,f_,f_,f_,f_,f_,f_,f_,f_,f_,f_,f_,f_] HT_ ?_
 refine pu 9 18 #[t_,t_,t_,t_,t_,t_,t_,t_,t_,t_,f_,f_,f_,f_,f_,f_,f_,f_,f_,f_,f_,f_,f_] HT_ ?_
 refine pu 10 19 #[t_,t_,t_,t_,t_,t_,t_,t_,t_,t_,t_,f_,f_,f_,f_,f_,f_,f_,f_,f_,f_,f_,f_] HT_ ?_
 refine tk 11 20 #[t_,t_,t_,t_,t_,t_,t_,t_,t_,t_,t_,t_,f_,f_,f_,f_,f_,f_,f_,f_,f_,f_,f_] HT_ HW_ hHeld ?_ (hv := by rintro w' ⟨s0, s1, s2, s3, s4, s5, s6, s7⟩; go_simp; with_reducible rfl)
 refine tk 12 21 #[t_,t_,t_,t_,t_,t_,t_,t_,t_,t_,t_,t_,t_,f_,f_,f_,f_,f_,f_,f_,f_,f_,f_] HT_ HW_ hHeld ?_ (hv := by rintro w' ⟨s0, s1, s2, s3, s4, s5, s6, s7⟩; go_simp; with_reducible rfl)
 refine tk 13 22 #[t_,t_,t_,t_,t_,t_,t_,t_,t_,t_,t_,t_,t_,t_,f_,f_,f_,f_,f_,f_,f_,f_,f_] HT_ HW_ hHeld ?_ (hv := by rintro w' ⟨s0, s1, s2, s3, s4, s5, s6, s7⟩; go_simp; with_reducible rfl)
 refine tk 15 24 #[t_,t_,t_,t_,t_,t_,t_,t_,t_,t_,t_,t_,t_,t_,f_,t_,f_,f_,f_,f_,f_,f_,f_] HT_ HW_ hHeld ?_ (hv := by rintro w' ⟨s0, s1, s2, s3, s4, s5, s6, s7⟩; go_simp; with_reducible rfl)
 refine tk 16 25 #[t_,t_,t_,t_,t_,t_,t_,t_,t_,t_,t_,t_,t_,t_,f_,t_,t_,f_,f_,f_,f_,f_,f_] HT_ HW_ hHeld ?_ (hv := by rintro w' ⟨s0, s1, s2, s3, s4, s5, s6, s7⟩; go_simp; with_reducible rfl)
 refine tk 17 26 #[t_,t_,t_,t_,t_,t_,t_,t_,t_,t_,t_,t_,t_,t_,f_,t_,t_,t_,f_,f_,f_,f_,f_] HT_ HW_ hHeld ?_ (hv := by rintro w' ⟨s0, s1, s2, s3, s4, s5, s6, s7⟩; go_simp; with_reducible rfl)
 refine one_ (i := 14) (N := some 23) #[t_,t_,t_,t_,t_,t_,t_,t_,t_,t_,t_,t_,t_,t_,t_,t_,t_,t_,f_,f_,f_,f_,f_] rfl rfl (bh_ HT_.out (by kernel_rfl)) (by decide) (fun K hK => ?_)
 (first | refine goes_ Try.func84 (by kernel_rfl) rfl #[.agg #[.int .i64 a2_0, .int .i64 a2_1], .agg #[.int .i64 a3_0, .int .i64 a3_1], .agg #[.int .i64 a0_0, .int .i64 a0_1]] (by rfl) rfl rfl (by first | rfl | (simp only [lma_, lmc_, lmn_]; first | done | rfl)) ?_ | refine RPW.by_ Try.func84 (by kernel_rfl) rfl #[.agg #[.int .i64 a2_0, .int .i64 a2_1], .agg #[.int .i64 a3_0, .int .i64 a3_1], .agg #[.int .i64 a0_0, .int .i64 a0_1]] (by rfl) rfl rfl rfl (by first | rfl | (simp only [lma_, lmc_, lmn_]; first | done | rfl)) ?_ | refine RPW.bz_ Try.func84 (by kernel_rfl) rfl #[.agg #[.int .i64 a2_0, .int .i64 a2_1], .agg #[.int .i64 a3_0, .int .i64 a3_1], .agg #[.int .i64 a0_0, .int .i64 a0_1]] (by rfl) rfl rfl rfl (by first | rfl | (simp only [lma_, lmc_, lmn_]; first | done | rfl)) ?_)
 with_reducible refine (bg_.calls a2_0 a2_1 a3_0 a3_1 a0_0 a0_1 t107 _ A8.out).mono ?_
 rintro e w17 ⟨rfl, hb⟩
 refine ⟨_, rfl, ?_⟩
 have n0_ := Aside0.mk (aa_ (kz BK101.out) hb)
 have n1_ := Aside0.mk (aa_ (kz BK102.out) hb)
 have n2_ := Aside0.mk (aa_ (kz BK103.out) hb)
 have n3_ := Aside0.mk (aa_ (kz BK104.out) hb)
 have n4_ := Aside0.mk (ad_ (bq) hb)
 clear BK101
 clear BK102
 clear BK103
 clear BK104
 clear HB
 have BK101 := n0_
 have BK102 := n1_
 have BK103 := n2_
 have BK104 := n3_
 have HB := n4_
 clear n0_ n1_ n2_ n3_ n4_
 (try clear hb)
 refine hK.out _ _ ⟨(ac_ BK101.out 0).trans rfl, (ac_ BK101.out 1).trans rfl, (ac_ BK102.out 0).trans rfl, (ac_ BK102.out 1).trans rfl, (ac_ BK103.out 0).trans rfl, (ac_ BK103.out 1).trans rfl, (ac_ BK104.out 0).trans rfl, (ac_ BK104.out 1).trans rfl⟩ (fun hHeld => ?_)
 clear hK K
 refine norm_ (a' := ?_) ?_ ?_
 rotate_left
 ·show Act.put _ (some 23) _ = _
  simp only [Act.put, lsa_, ls0_, ls1_, i64_w, i32_w]
  rfl
 refine one_ (i := 18) (N := some 27) #[t_,t_,t_,t_,t_,t_,t_,t_,t_,t_,t_,t_,t_,t_,t_,t_,t_,t_,t_,f_,f_,f_,f_] rfl rfl (bh_ HT_.out (by kernel_rfl)) (by decide) (fun K hK => ?_)
 (first | refine goes_ Try.func84 (by kernel_rfl) rfl #[.agg #[.int .i64 a2_0, .int .i64 a2_1], .agg #[.int .i64 a3_0, .int .i64 a3_1], .agg #[.int .i64 a1_0, .int .i64 a1_1]] (by rfl) rfl rfl (by first | rfl | (simp only [lma_, lmc_, lmn_]; first | done | rfl)) ?_ | refine RPW.by_ Try.func84 (by kernel_rfl) rfl #[.agg #[.int .i64 a2_0, .int .i64 a2_1], .agg #[.int .i64 a3_0, .int .i64 a3_1], .agg #[.int .i64 a1_0, .int .i64 a1_1]] (by rfl) rfl rfl rfl (by first | rfl | (simp only [lma_, lmc_, lmn_]; first | done | rfl)) ?_ | refine RPW.bz_ Try.func84 (by kernel_rfl) rfl #[.agg #[.int .i64 a2_0, .int .i64 a2_1], .agg #[.int .i64 a3_0, .int .i64 a3_1], .agg #[.int .i64 a1_0, .int .i64 a1_1]] (by rfl) rfl rfl rfl (by first | rfl | (simp only [lma_, lmc_, lmn_]; first | done | rfl)) ?_)
 with_reducible refine (bg_.calls a2_0 a2_1 a3_0 a3_1 a1_0 a1_1 t108 _ A9.out).mono ?_
 rintro e w18 ⟨rfl, hb⟩
 refine ⟨_, rfl, ?_⟩
 have n0_ := Aside0.mk (aa_ (kz BK101.out) hb)
 have n1_ := Aside0.mk (aa_ (kz BK102.out) hb)
 have n2_ := Aside0.mk (aa_ (kz BK103.out) hb)
 have n3_ := Aside0.mk (aa_ (kz BK104.out) hb)
 have n4_ := Aside0.mk (ad_ (bq) hb)
 clear BK101
 clear BK102
 clear BK103
 clear BK104
 clear HB
 have BK101 := n0_
 have BK102 := n1_
 have BK103 := n2_
 have BK104 := n3_
 have HB := n4_
 clear n0_ n1_ n2_ n3_ n4_
 (try clear hb)
 refine hK.out _ _ ⟨(ac_ BK101.out 0).trans rfl, (ac_ BK101.out 1).trans rfl, (ac_ BK102.out 0).trans rfl, (ac_ BK102.out 1).trans rfl, (ac_ BK103.out 0).trans rfl, (ac_ BK103.out 1).trans rfl, (ac_ BK104.out 0).trans rfl, (ac_ BK104.out 1).trans rfl⟩ (fun hHeld => ?_)
 clear hK K
 refine norm_ (a' := ?_) ?_ ?_
 rotate_left
 ·show Act.put _ (some 27) _ = _
  simp only [Act.put, lsa_, ls0_, ls1_, i64_w, i32_w]
  rfl
 refine pu 19 28 #[t_,t_,t_,t_,t_,t_,t_,t_,t_,t_,t_,t_,t_,t_,t_,t_,t_,t_,t_,t_,f_,f_,f_] HT_ ?_
 refine pu 20 29 #[t_,t_,t_,t_,t_,t_,t_,t_,t_,t_,t_,t_,t_,t_,t_,t_,t_,t_,t_,t_,t_,f_,f_] HT_ ?_
 refine pu 21 30 #[t_,t_,t_,t_,t_,t_,t_,t_,t_,t_,t_,t_,t_,t_,t_,t_,t_,t_,t_,t_,t_,t_,f_] HT_ ?_
 refine pu 22 8 #[t_,t_,t_,t_,t_,t_,t_,t_,t_,t_,t_,t_,t_,t_,t_,t_,t_,t_,t_,t_,t_,t_,t_] HT_ ?_
 refine done_ (bS_ HT_.out (by kernel_rfl)) ?_
 try go_wp2
 go_ret
 exact ⟨by first | rfl | (simp [*, ah_, ai_] <;> rfl), bq⟩
def cN_.f (a0_0 : Int) (a0_1 : Int) (a1_0 : Int) (a1_1 : Int) (a2_0 : Int) (a2_1 : Int) (a3_0 : Int) (a3_1 : Int) : Option (Bool) := (aX_.f a0_0 a0_1 a1_0 a1_1 a2_0 a2_1 a3_0 a3_1).bind fun t105 => (if t105 = true then (some true) else ((aH_.f a0_0 a0_1 a1_0 a1_1 a2_0 a2_1).bind fun t106 => (if t106 = true then (some true) else ((aH_.f a0_0 a0_1 a1_0 a1_1 a3_0 a3_1).bind fun t107 => (if t107 = true then (some true) else ((aH_.f a2_0 a2_1 a3_0 a3_1 a0_0 a0_1).bind fun t108 => (if t108 = true then (some true) else ((aH_.f a2_0 a2_1 a3_0 a3_1 a1_0 a1_1).bind fun t109 => (some t109)))))))))
set_option maxHeartbeats 8000000 in
set_option maxRecDepth 100000 in
theorem cN_.calls (a0_0 : Int) (a0_1 : Int) (a1_0 : Int) (a1_1 : Int) (a2_0 : Int) (a2_1 : Int) (a3_0 : Int) (a3_1 : Int) (r : Bool) (w : World) (h : cN_.f a0_0 a0_1 a1_0 a1_1 a2_0 a2_1 a3_0 a3_1 = some r) :
  Calls Try.prog 77 #[.agg #[.int .i64 a0_0, .int .i64 a0_1], .agg #[.int .i64 a1_0, .int .i64 a1_1], .agg #[.int .i64 a2_0, .int .i64 a2_1], .agg #[.int .i64 a3_0, .int .i64 a3_1]] w fun e w' => e = .returned (.bool r) ∧ Below w.heap.size w w' := by
 have hu81 := Try.underlying81
 have HB := Aside0.mk (Below.refl w.heap.size w)
 have H : ((aX_.f a0_0 a0_1 a1_0 a1_1 a2_0 a2_1 a3_0 a3_1).bind fun t105 => (if t105 = true then (some true) else ((aH_.f a0_0 a0_1 a1_0 a1_1 a2_0 a2_1).bind fun t106 => (if t106 = true then (some true) else ((aH_.f a0_0 a0_1 a1_0 a1_1 a3_0 a3_1).bind fun t107 => (if t107 = true then (some true) else ((aH_.f a2_0 a2_1 a3_0 a3_1 a0_0 a0_1).bind fun t108 => (if t108 = true then (some true) else ((aH_.f a2_0 a2_1 a3_0 a3_1 a1_0 a1_1).bind fun t109 => (some t109)))))))))) = some r := h
 clear h
 replace H := Option.bind_eq_some_iff.mp H
 obtain ⟨t105, A50, H⟩ := H
 (try dsimp only at H)
 have A5 := Aside0.mk A50
 clear A50
 by_cases c6 : t105 = true
 rotate_left
 ·replace c6 := Bool.eq_false_iff.mpr c6
  subst c6
  have H1 : ((aH_.f a0_0 a0_1 a1_0 a1_1 a2_0 a2_1).bind fun t106 => (if t106 = true then (some true) else ((aH_.f a0_0 a0_1 a1_0 a1_1 a3_0 a3_1).bind fun t107 => (if t107 = true then (some true) else ((aH_.f a2_0 a2_1 a3_0 a3_1 a0_0 a0_1).bind fun t108 => (if t108 = true then (some true) else ((aH_.f a2_0 a2_1 a3_0 a3_1 a1_0 a1_1).bind fun t109 => (some t109)))))))) = some r := by rw [if_neg (show ¬ (false = true) by decide)] at H; exact H
  clear H
  have H := H1
  clear H1
  replace H := Option.bind_eq_some_iff.mp H
  obtain ⟨t106, A220, H⟩ := H
  (try dsimp only at H)
  have A22 := Aside0.mk A220
  clear A220
  by_cases c23 : t106 = true
  rotate_left
  ·replace c23 := Bool.eq_false_iff.mpr c23
   subst c23
   have H1 : ((aH_.f a0_0 a0_1 a1_0 a1_1 a3_0 a3_1).bind fun t107 => (if t107 = true then (some true) else ((aH_.f a2_0 a2_1 a3_0 a3_1 a0_0 a0_1).bind fun t108 => (if t108 = true then (some true) else ((aH_.f a2_0 a2_1 a3_0 a3_1 a1_0 a1_1).bind fun t109 => (some t109)))))) = some r := by rw [if_neg (show ¬ (false = true) by decide)] at H; exact H
   clear H
   have H := H1
   clear H1
   replace H := Option.bind_eq_some_iff.mp H
   obtain ⟨t107, A430, H⟩ := H
   (try dsimp only at H)
   have A43 := Aside0.mk A430
   clear A430
   by_cases c44 : t107 = true
   rotate_left
   ·replace c44 := Bool.eq_false_iff.mpr c44
    subst c44
    have H1 : ((aH_.f a2_0 a2_1 a3_0 a3_1 a0_0 a0_1).bind fun t108 => (if t108 = true then (some true) else ((aH_.f a2_0 a2_1 a3_0 a3_1 a1_0 a1_1).bind fun t109 => (some t109)))) = some r := by rw [if_neg (show ¬ (false = true) by decide)] at H; exact H
    clear H
    have H := H1
    clear H1
    replace H := Option.bind_eq_some_iff.mp H
    obtain ⟨t108, A680, H⟩ := H
    (try dsimp only at H)
    have A68 := Aside0.mk A680
    clear A680
    by_cases c69 : t108 = true
    rotate_left
    ·replace c69 := Bool.eq_false_iff.mpr c69
     subst c69
     have H1 : ((aH_.f a2_0 a2_1 a3_0 a3_1 a1_0 a1_1).bind fun t109 => (some t109)) = some r := by rw [if_neg (show ¬ (false = true) by decide)] at H; exact H
     clear H
     have H := H1
     clear H1
     replace H := Option.bind_eq_some_iff.mp H
     obtain ⟨t109, A970, H⟩ := H
     (try dsimp only at H)
     have A97 := Aside0.mk A970
     clear A970
     obtain rfl := Option.some.inj H
     go_enter Try.func77, Try.ntmps77
     go_wp2_with (first | ((with_reducible refine al_ (N := 4) rfl ?_); refine ak_ ?hg (N := 4) ?hd (cs := #[.int .i64 a0_0, .int .i64 a0_1]) (t := 81) ?hr ?_; (case hd => rfl); (case hg => rfl); (case hr => (go_simp; try rfl)); intro gb101 hg w98 hbox hb; have BK101 := Aside0.mk (hbox); have GW101 := Aside0.mk ((by rw [hg]; exact (ae_ (bz HB.out)) : w.heap.size ≤ gb101)); have GE101 := GW101; replace HB := Aside0.mk (ad_ (bz HB.out) hb); clear hb hbox hg) | ((with_reducible refine al_ (N := 5) rfl ?_); refine ak_ ?hg (N := 5) ?hd (cs := #[.int .i64 a1_0, .int .i64 a1_1]) (t := 81) ?hr ?_; (case hd => rfl); (case hg => rfl); (case hr => (go_simp; try rfl)); intro gb102 hg w99 hbox hb; have BK102 := Aside0.mk (hbox); have GW102 := Aside0.mk ((by rw [hg]; exact (ae_ (bq)) : w.heap.size ≤ gb102)); have GE102 := GW102; replace HB := Aside0.mk (ad_ (bq) hb); have NB101_102 := Aside0.mk ((by rw [hg]; exact Nat.ne_of_lt (aj_ (kz BK101.out)) : gb101 ≠ gb102)); have NB102_101 := Aside0.mk ((by rw [hg]; exact Nat.ne_of_gt (aj_ (kz BK101.out)) : gb102 ≠ gb101)); replace BK101 := Aside0.mk (aa_ (kz BK101.out) hb); clear hb hbox hg) | ((with_reducible refine al_ (N := 6) rfl ?_); refine ak_ ?hg (N := 6) ?hd (cs := #[.int .i64 a2_0, .int .i64 a2_1]) (t := 81) ?hr ?_; (case hd => rfl); (case hg => rfl); (case hr => (go_simp; try rfl)); intro gb103 hg w100 hbox hb; have BK103 := Aside0.mk (hbox); have GW103 := Aside0.mk ((by rw [hg]; exact (ae_ (bq)) : w.heap.size ≤ gb103)); have GE103 := GW103; replace HB := Aside0.mk (ad_ (bq) hb); have NB101_103 := Aside0.mk ((by rw [hg]; exact Nat.ne_of_lt (aj_ (kz BK101.out)) : gb101 ≠ gb103)); have NB103_101 := Aside0.mk ((by rw [hg]; exact Nat.ne_of_gt (aj_ (kz BK101.out)) : gb103 ≠ gb101)); replace BK101 := Aside0.mk (aa_ (kz BK101.out) hb); have NB102_103 := Aside0.mk ((by rw [hg]; exact Nat.ne_of_lt (aj_ (kz BK102.out)) : gb102 ≠ gb103)); have NB103_102 := Aside0.mk ((by rw [hg]; exact Nat.ne_of_gt (aj_ (kz BK102.out)) : gb103 ≠ gb102)); replace BK102 := Aside0.mk (aa_ (kz BK102.out) hb); clear hb hbox hg) | ((with_reducible refine al_ (N := 7) rfl ?_); refine ak_ ?hg (N := 7) ?hd (cs := #[.int .i64 a3_0, .int .i64 a3_1]) (t := 81) ?hr ?_; (case hd => rfl); (case hg => rfl); (case hr => (go_simp; try rfl)); intro gb104 hg w101 hbox hb; have BK104 := Aside0.mk (hbox); have GW104 := Aside0.mk ((by rw [hg]; exact (ae_ (bq)) : w.heap.size ≤ gb104)); have GE104 := GW104; replace HB := Aside0.mk (ad_ (bq) hb); have NB101_104 := Aside0.mk ((by rw [hg]; exact Nat.ne_of_lt (aj_ (kz BK101.out)) : gb101 ≠ gb104)); have NB104_101 := Aside0.mk ((by rw [hg]; exact Nat.ne_of_gt (aj_ (kz BK101.out)) : gb104 ≠ gb101)); replace BK101 := Aside0.mk (aa_ (kz BK101.out) hb); have NB102_104 := Aside0.mk ((by rw [hg]; exact Nat.ne_of_lt (aj_ (kz BK102.out)) : gb102 ≠ gb104)); have NB104_102 := Aside0.mk ((by rw [hg]; exact Nat.ne_of_gt (aj_ (kz BK102.out)) : gb104 ≠ gb102)); replace BK102 := Aside0.mk (aa_ (kz BK102.out) hb); have NB103_104 := Aside0.mk ((by rw [hg]; exact Nat.ne_of_lt (aj_ (kz BK103.out)) : gb103 ≠ gb104)); have NB104_103 := Aside0.mk ((by rw [hg]; exact Nat.ne_of_gt (aj_ (kz BK103.out)) : gb104 ≠ gb103)); replace BK103 := Aside0.mk (aa_ (kz BK103.out) hb); clear hb hbox hg; have hnb102 := NB101_102.out; have hnc102 := NB102_101.out; have hnb103 := NB101_103.out; have hnc103 := NB103_101.out; have hnb104 := NB101_104.out; have hnc104 := NB104_101.out; obtain ⟨hcz105_0, hcz105_1⟩ := cz2_ BK101.out; obtain ⟨hfz105_0, hfz105_1⟩ := fz2_ BK101.out; have hnb106 := NB102_103.out; have hnc106 := NB103_102.out; have hnb107 := NB102_104.out; have hnc107 := NB104_102.out; obtain ⟨hcz108_0, hcz108_1⟩ := cz2_ BK102.out; obtain ⟨hfz108_0, hfz108_1⟩ := fz2_ BK102.out; have hnb109 := NB103_104.out; have hnc109 := NB104_103.out; obtain ⟨hcz110_0, hcz110_1⟩ := cz2_ BK103.out; obtain ⟨hfz110_0, hfz110_1⟩ := fz2_ BK103.out; obtain ⟨hcz111_0, hcz111_1⟩ := cz2_ BK104.out; obtain ⟨hfz111_0, hfz111_1⟩ := fz2_ BK104.out) | ((with_reducible refine an_ (f := 87) rfl ?_); refine aU_ (some 13) rfl rfl Try.func87 (by kernel_rfl) rfl #[.agg #[.int .i64 a0_0, .int .i64 a0_1], .agg #[.int .i64 a1_0, .int .i64 a1_1], .agg #[.int .i64 a2_0, .int .i64 a2_1], .agg #[.int .i64 a3_0, .int .i64 a3_1]] rfl (by first | rfl | (simp only [lma_, lmc_, lmn_]; first | done | rfl)) ?_; (with_reducible refine (aX_.calls a0_0 a0_1 a1_0 a1_1 a2_0 a2_1 a3_0 a3_1 false _ A5.out).mono ?_); rintro e w112 ⟨rfl, hb⟩; refine ⟨_, rfl, ?_⟩; replace BK101 := Aside0.mk (aa_ (kz BK101.out) hb); replace BK102 := Aside0.mk (aa_ (kz BK102.out) hb); replace BK103 := Aside0.mk (aa_ (kz BK103.out) hb); replace BK104 := Aside0.mk (aa_ (kz BK104.out) hb); replace HB := Aside0.mk (ad_ (bq) hb); (try clear hb); obtain ⟨hcz113_0, hcz113_1⟩ := cz2_ BK101.out; obtain ⟨hfz113_0, hfz113_1⟩ := fz2_ BK101.out; obtain ⟨hcz114_0, hcz114_1⟩ := cz2_ BK102.out; obtain ⟨hfz114_0, hfz114_1⟩ := fz2_ BK102.out; obtain ⟨hcz115_0, hcz115_1⟩ := cz2_ BK103.out; obtain ⟨hfz115_0, hfz115_1⟩ := fz2_ BK103.out) | (go_at_call 76; (with_reducible refine (aH_.calls a0_0 a0_1 a1_0 a1_1 a2_0 a2_1 false _ A22.out).mono ?_); rintro e w116 ⟨rfl, hb⟩; replace BK101 := Aside0.mk (aa_ (kz BK101.out) hb); replace BK102 := Aside0.mk (aa_ (kz BK102.out) hb); replace BK103 := Aside0.mk (aa_ (kz BK103.out) hb); replace BK104 := Aside0.mk (aa_ (kz BK104.out) hb); replace HB := Aside0.mk (ad_ (bq) hb); (try clear hb); obtain ⟨hcz117_0, hcz117_1⟩ := cz2_ BK101.out; obtain ⟨hfz117_0, hfz117_1⟩ := fz2_ BK101.out; obtain ⟨hcz118_0, hcz118_1⟩ := cz2_ BK102.out; obtain ⟨hfz118_0, hfz118_1⟩ := fz2_ BK102.out; obtain ⟨hcz119_0, hcz119_1⟩ := cz2_ BK104.out; obtain ⟨hfz119_0, hfz119_1⟩ := fz2_ BK104.out) | (go_at_call 76; (with_reducible refine (aH_.calls a0_0 a0_1 a1_0 a1_1 a3_0 a3_1 false _ A43.out).mono ?_); rintro e w120 ⟨rfl, hb⟩; replace BK101 := Aside0.mk (aa_ (kz BK101.out) hb); replace BK102 := Aside0.mk (aa_ (kz BK102.out) hb); replace BK103 := Aside0.mk (aa_ (kz BK103.out) hb); replace BK104 := Aside0.mk (aa_ (kz BK104.out) hb); replace HB := Aside0.mk (ad_ (bq) hb); (try clear hb); obtain ⟨hcz121_0, hcz121_1⟩ := cz2_ BK103.out; obtain ⟨hfz121_0, hfz121_1⟩ := fz2_ BK103.out; obtain ⟨hcz122_0, hcz122_1⟩ := cz2_ BK104.out; obtain ⟨hfz122_0, hfz122_1⟩ := fz2_ BK104.out; obtain ⟨hcz123_0, hcz123_1⟩ := cz2_ BK101.out; obtain ⟨hfz123_0, hfz123_1⟩ := fz2_ BK101.out) | (go_at_call 76; (with_reducible refine (aH_.calls a2_0 a2_1 a3_0 a3_1 a0_0 a0_1 false _ A68.out).mono ?_); rintro e w124 ⟨rfl, hb⟩; replace BK101 := Aside0.mk (aa_ (kz BK101.out) hb); replace BK102 := Aside0.mk (aa_ (kz BK102.out) hb); replace BK103 := Aside0.mk (aa_ (kz BK103.out) hb); replace BK104 := Aside0.mk (aa_ (kz BK104.out) hb); replace HB := Aside0.mk (ad_ (bq) hb); (try clear hb); obtain ⟨hcz125_0, hcz125_1⟩ := cz2_ BK103.out; obtain ⟨hfz125_0, hfz125_1⟩ := fz2_ BK103.out; obtain ⟨hcz126_0, hcz126_1⟩ := cz2_ BK104.out; obtain ⟨hfz126_0, hfz126_1⟩ := fz2_ BK104.out; obtain ⟨hcz127_0, hcz127_1⟩ := cz2_ BK102.out; obtain ⟨hfz127_0, hfz127_1⟩ := fz2_ BK102.out) | (go_at_call 76; (with_reducible refine (aH_.calls a2_0 a2_1 a3_0 a3_1 a1_0 a1_1 t109 _ A97.out).mono ?_); rintro e w128 ⟨rfl, hb⟩; replace BK101 := Aside0.mk (aa_ (kz BK101.out) hb); replace BK102 := Aside0.mk (aa_ (kz BK102.out) hb); replace BK103 := Aside0.mk (aa_ (kz BK103.out) hb); replace BK104 := Aside0.mk (aa_ (kz BK104.out) hb); replace HB := Aside0.mk (ad_ (bq) hb); (try clear hb)))
     go_ret
     exact ⟨by first | rfl | (simp [*, ah_, ai_] <;> rfl), bq⟩
    subst c69
    have H1 : (some true) = some r := by rw [if_pos rfl] at H; exact H
    clear H
    have H := H1
    clear H1
    obtain rfl := Option.some.inj H
    go_enter Try.func77, Try.ntmps77
    go_wp2_with (first | ((with_reducible refine al_ (N := 4) rfl ?_); refine ak_ ?hg (N := 4) ?hd (cs := #[.int .i64 a0_0, .int .i64 a0_1]) (t := 81) ?hr ?_; (case hd => rfl); (case hg => rfl); (case hr => (go_simp; try rfl)); intro gb101 hg w70 hbox hb; have BK101 := Aside0.mk (hbox); have GW101 := Aside0.mk ((by rw [hg]; exact (ae_ (bz HB.out)) : w.heap.size ≤ gb101)); have GE101 := GW101; replace HB := Aside0.mk (ad_ (bz HB.out) hb); clear hb hbox hg) | ((with_reducible refine al_ (N := 5) rfl ?_); refine ak_ ?hg (N := 5) ?hd (cs := #[.int .i64 a1_0, .int .i64 a1_1]) (t := 81) ?hr ?_; (case hd => rfl); (case hg => rfl); (case hr => (go_simp; try rfl)); intro gb102 hg w71 hbox hb; have BK102 := Aside0.mk (hbox); have GW102 := Aside0.mk ((by rw [hg]; exact (ae_ (bq)) : w.heap.size ≤ gb102)); have GE102 := GW102; replace HB := Aside0.mk (ad_ (bq) hb); have NB101_102 := Aside0.mk ((by rw [hg]; exact Nat.ne_of_lt (aj_ (kz BK101.out)) : gb101 ≠ gb102)); have NB102_101 := Aside0.mk ((by rw [hg]; exact Nat.ne_of_gt (aj_ (kz BK101.out)) : gb102 ≠ gb101)); replace BK101 := Aside0.mk (aa_ (kz BK101.out) hb); clear hb hbox hg) | ((with_reducible refine al_ (N := 6) rfl ?_); refine ak_ ?hg (N := 6) ?hd (cs := #[.int .i64 a2_0, .int .i64 a2_1]) (t := 81) ?hr ?_; (case hd => rfl); (case hg => rfl); (case hr => (go_simp; try rfl)); intro gb103 hg w72 hbox hb; have BK103 := Aside0.mk (hbox); have GW103 := Aside0.mk ((by rw [hg]; exact (ae_ (bq)) : w.heap.size ≤ gb103)); have GE103 := GW103; replace HB := Aside0.mk (ad_ (bq) hb); have NB101_103 := Aside0.mk ((by rw [hg]; exact Nat.ne_of_lt (aj_ (kz BK101.out)) : gb101 ≠ gb103)); have NB103_101 := Aside0.mk ((by rw [hg]; exact Nat.ne_of_gt (aj_ (kz BK101.out)) : gb103 ≠ gb101)); replace BK101 := Aside0.mk (aa_ (kz BK101.out) hb); have NB102_103 := Aside0.mk ((by rw [hg]; exact Nat.ne_of_lt (aj_ (kz BK102.out)) : gb102 ≠ gb103)); have NB103_102 := Aside0.mk ((by rw [hg]; exact Nat.ne_of_gt (aj_ (kz BK102.out)) : gb103 ≠ gb102)); replace BK102 := Aside0.mk (aa_ (kz BK102.out) hb); clear hb hbox hg) | ((with_reducible refine al_ (N := 7) rfl ?_); refine ak_ ?hg (N := 7) ?hd (cs := #[.int .i64 a3_0, .int .i64 a3_1]) (t := 81) ?hr ?_; (case hd => rfl); (case hg => rfl); (case hr => (go_simp; try rfl)); intro gb104 hg w73 hbox hb; have BK104 := Aside0.mk (hbox); have GW104 := Aside0.mk ((by rw [hg]; exact (ae_ (bq)) : w.heap.size ≤ gb104)); have GE104 := GW104; replace HB := Aside0.mk (ad_ (bq) hb); have NB101_104 := Aside0.mk ((by rw [hg]; exact Nat.ne_of_lt (aj_ (kz BK101.out)) : gb101 ≠ gb104)); have NB104_101 := Aside0.mk ((by rw [hg]; exact Nat.ne_of_gt (aj_ (kz BK101.out)) : gb104 ≠ gb101)); replace BK101 := Aside0.mk (aa_ (kz BK101.out) hb); have NB102_104 := Aside0.mk ((by rw [hg]; exact Nat.ne_of_lt (aj_ (kz BK102.out)) : gb102 ≠ gb104)); have NB104_102 := Aside0.mk ((by rw [hg]; exact Nat.ne_of_gt (aj_ (kz BK102.out)) : gb104 ≠ gb102)); replace BK102 := Aside0.mk (aa_ (kz BK102.out) hb); have NB103_104 := Aside0.mk ((by rw [hg]; exact Nat.ne_of_lt (aj_ (kz BK103.out)) : gb103 ≠ gb104)); have NB104_103 := Aside0.mk ((by rw [hg]; exact Nat.ne_of_gt (aj_ (kz BK103.out)) : gb104 ≠ gb103)); replace BK103 := Aside0.mk (aa_ (kz BK103.out) hb); clear hb hbox hg; have hnb74 := NB101_102.out; have hnc74 := NB102_101.out; have hnb75 := NB101_103.out; have hnc75 := NB103_101.out; have hnb76 := NB101_104.out; have hnc76 := NB104_101.out; obtain ⟨hcz77_0, hcz77_1⟩ := cz2_ BK101.out; obtain ⟨hfz77_0, hfz77_1⟩ := fz2_ BK101.out; have hnb78 := NB102_103.out; have hnc78 := NB103_102.out; have hnb79 := NB102_104.out; have hnc79 := NB104_102.out; obtain ⟨hcz80_0, hcz80_1⟩ := cz2_ BK102.out; obtain ⟨hfz80_0, hfz80_1⟩ := fz2_ BK102.out; have hnb81 := NB103_104.out; have hnc81 := NB104_103.out; obtain ⟨hcz82_0, hcz82_1⟩ := cz2_ BK103.out; obtain ⟨hfz82_0, hfz82_1⟩ := fz2_ BK103.out; obtain ⟨hcz83_0, hcz83_1⟩ := cz2_ BK104.out; obtain ⟨hfz83_0, hfz83_1⟩ := fz2_ BK104.out) | ((with_reducible refine an_ (f := 87) rfl ?_); refine aU_ (some 13) rfl rfl Try.func87 (by kernel_rfl) rfl #[.agg #[.int .i64 a0_0, .int .i64 a0_1], .agg #[.int .i64 a1_0, .int .i64 a1_1], .agg #[.int .i64 a2_0, .int .i64 a2_1], .agg #[.int .i64 a3_0, .int .i64 a3_1]] rfl (by first | rfl | (simp only [lma_, lmc_, lmn_]; first | done | rfl)) ?_; (with_reducible refine (aX_.calls a0_0 a0_1 a1_0 a1_1 a2_0 a2_1 a3_0 a3_1 false _ A5.out).mono ?_); rintro e w84 ⟨rfl, hb⟩; refine ⟨_, rfl, ?_⟩; replace BK101 := Aside0.mk (aa_ (kz BK101.out) hb); replace BK102 := Aside0.mk (aa_ (kz BK102.out) hb); replace BK103 := Aside0.mk (aa_ (kz BK103.out) hb); replace BK104 := Aside0.mk (aa_ (kz BK104.out) hb); replace HB := Aside0.mk (ad_ (bq) hb); (try clear hb); obtain ⟨hcz85_0, hcz85_1⟩ := cz2_ BK101.out; obtain ⟨hfz85_0, hfz85_1⟩ := fz2_ BK101.out; obtain ⟨hcz86_0, hcz86_1⟩ := cz2_ BK102.out; obtain ⟨hfz86_0, hfz86_1⟩ := fz2_ BK102.out; obtain ⟨hcz87_0, hcz87_1⟩ := cz2_ BK103.out; obtain ⟨hfz87_0, hfz87_1⟩ := fz2_ BK103.out) | (go_at_call 76; (with_reducible refine (aH_.calls a0_0 a0_1 a1_0 a1_1 a2_0 a2_1 false _ A22.out).mono ?_); rintro e w88 ⟨rfl, hb⟩; replace BK101 := Aside0.mk (aa_ (kz BK101.out) hb); replace BK102 := Aside0.mk (aa_ (kz BK102.out) hb); replace BK103 := Aside0.mk (aa_ (kz BK103.out) hb); replace BK104 := Aside0.mk (aa_ (kz BK104.out) hb); replace HB := Aside0.mk (ad_ (bq) hb); (try clear hb); obtain ⟨hcz89_0, hcz89_1⟩ := cz2_ BK101.out; obtain ⟨hfz89_0, hfz89_1⟩ := fz2_ BK101.out; obtain ⟨hcz90_0, hcz90_1⟩ := cz2_ BK102.out; obtain ⟨hfz90_0, hfz90_1⟩ := fz2_ BK102.out; obtain ⟨hcz91_0, hcz91_1⟩ := cz2_ BK104.out; obtain ⟨hfz91_0, hfz91_1⟩ := fz2_ BK104.out) | (go_at_call 76; (with_reducible refine (aH_.calls a0_0 a0_1 a1_0 a1_1 a3_0 a3_1 false _ A43.out).mono ?_); rintro e w92 ⟨rfl, hb⟩; replace BK101 := Aside0.mk (aa_ (kz BK101.out) hb); replace BK102 := Aside0.mk (aa_ (kz BK102.out) hb); replace BK103 := Aside0.mk (aa_ (kz BK103.out) hb); replace BK104 := Aside0.mk (aa_ (kz BK104.out) hb); replace HB := Aside0.mk (ad_ (bq) hb); (try clear hb); obtain ⟨hcz93_0, hcz93_1⟩ := cz2_ BK103.out; obtain ⟨hfz93_0, hfz93_1⟩ := fz2_ BK103.out; obtain ⟨hcz94_0, hcz94_1⟩ := cz2_ BK104.out; obtain ⟨hfz94_0, hfz94_1⟩ := fz2_ BK104.out; obtain ⟨hcz95_0, hcz95_1⟩ := cz2_ BK101.out; obtain ⟨hfz95_0, hfz95_1⟩ := fz2_ BK101.out) | (go_at_call 76; (with_reducible refine (aH_.calls a2_0 a2_1 a3_0 a3_1 a0_0 a0_1 true _ A68.out).mono ?_); rintro e w96 ⟨rfl, hb⟩; replace BK101 := Aside0.mk (aa_ (kz BK101.out) hb); replace BK102 := Aside0.mk (aa_ (kz BK102.out) hb); replace BK103 := Aside0.mk (aa_ (kz BK103.out) hb); replace BK104 := Aside0.mk (aa_ (kz BK104.out) hb); replace HB := Aside0.mk (ad_ (bq) hb); (try clear hb)))
    go_ret
    exact ⟨by first | rfl | (simp [*, ah_, ai_] <;> rfl), bq⟩
   subst c44
   have H1 : (some true) = some r := by rw [if_pos rfl] at H; exact H
   clear H
   have H := H1
   clear H1
   obtain rfl := Option.some.inj H
   go_enter Try.func77, Try.ntmps77
   go_wp2_with (first | ((with_reducible refine al_ (N := 4) rfl ?_); refine ak_ ?hg (N := 4) ?hd (cs := #[.int .i64 a0_0, .int .i64 a0_1]) (t := 81) ?hr ?_; (case hd => rfl); (case hg => rfl); (case hr => (go_simp; try rfl)); intro gb101 hg w45 hbox hb; have BK101 := Aside0.mk (hbox); have GW101 := Aside0.mk ((by rw [hg]; exact (ae_ (bz HB.out)) : w.heap.size ≤ gb101)); have GE101 := GW101; replace HB := Aside0.mk (ad_ (bz HB.out) hb); clear hb hbox hg) | ((with_reducible refine al_ (N := 5) rfl ?_); refine ak_ ?hg (N := 5) ?hd (cs := #[.int .i64 a1_0, .int .i64 a1_1]) (t := 81) ?hr ?_; (case hd => rfl); (case hg => rfl); (case hr => (go_simp; try rfl)); intro gb102 hg w46 hbox hb; have BK102 := Aside0.mk (hbox); have GW102 := Aside0.mk ((by rw [hg]; exact (ae_ (bq)) : w.heap.size ≤ gb102)); have GE102 := GW102; replace HB := Aside0.mk (ad_ (bq) hb); have NB101_102 := Aside0.mk ((by rw [hg]; exact Nat.ne_of_lt (aj_ (kz BK101.out)) : gb101 ≠ gb102)); have NB102_101 := Aside0.mk ((by rw [hg]; exact Nat.ne_of_gt (aj_ (kz BK101.out)) : gb102 ≠ gb101)); replace BK101 := Aside0.mk (aa_ (kz BK101.out) hb); clear hb hbox hg) | ((with_reducible refine al_ (N := 6) rfl ?_); refine ak_ ?hg (N := 6) ?hd (cs := #[.int .i64 a2_0, .int .i64 a2_1]) (t := 81) ?hr ?_; (case hd => rfl); (case hg => rfl); (case hr => (go_simp; try rfl)); intro gb103 hg w47 hbox hb; have BK103 := Aside0.mk (hbox); have GW103 := Aside0.mk ((by rw [hg]; exact (ae_ (bq)) : w.heap.size ≤ gb103)); have GE103 := GW103; replace HB := Aside0.mk (ad_ (bq) hb); have NB101_103 := Aside0.mk ((by rw [hg]; exact Nat.ne_of_lt (aj_ (kz BK101.out)) : gb101 ≠ gb103)); have NB103_101 := Aside0.mk ((by rw [hg]; exact Nat.ne_of_gt (aj_ (kz BK101.out)) : gb103 ≠ gb101)); replace BK101 := Aside0.mk (aa_ (kz BK101.out) hb); have NB102_103 := Aside0.mk ((by rw [hg]; exact Nat.ne_of_lt (aj_ (kz BK102.out)) : gb102 ≠ gb103)); have NB103_102 := Aside0.mk ((by rw [hg]; exact Nat.ne_of_gt (aj_ (kz BK102.out)) : gb103 ≠ gb102)); replace BK102 := Aside0.mk (aa_ (kz BK102.out) hb); clear hb hbox hg) | ((with_reducible refine al_ (N := 7) rfl ?_); refine ak_ ?hg (N := 7) ?hd (cs := #[.int .i64 a3_0, .int .i64 a3_1]) (t := 81) ?hr ?_; (case hd => rfl); (case hg => rfl); (case hr => (go_simp; try rfl)); intro gb104 hg w48 hbox hb; have BK104 := Aside0.mk (hbox); have GW104 := Aside0.mk ((by rw [hg]; exact (ae_ (bq)) : w.heap.size ≤ gb104)); have GE104 := GW104; replace HB := Aside0.mk (ad_ (bq) hb); have NB101_104 := Aside0.mk ((by rw [hg]; exact Nat.ne_of_lt (aj_ (kz BK101.out)) : gb101 ≠ gb104)); have NB104_101 := Aside0.mk ((by rw [hg]; exact Nat.ne_of_gt (aj_ (kz BK101.out)) : gb104 ≠ gb101)); replace BK101 := Aside0.mk (aa_ (kz BK101.out) hb); have NB102_104 := Aside0.mk ((by rw [hg]; exact Nat.ne_of_lt (aj_ (kz BK102.out)) : gb102 ≠ gb104)); have NB104_102 := Aside0.mk ((by rw [hg]; exact Nat.ne_of_gt (aj_ (kz BK102.out)) : gb104 ≠ gb102)); replace BK102 := Aside0.mk (aa_ (kz BK102.out) hb); have NB103_104 := Aside0.mk ((by rw [hg]; exact Nat.ne_of_lt (aj_ (kz BK103.out)) : gb103 ≠ gb104)); have NB104_103 := Aside0.mk ((by rw [hg]; exact Nat.ne_of_gt (aj_ (kz BK103.out)) : gb104 ≠ gb103)); replace BK103 := Aside0.mk (aa_ (kz BK103.out) hb); clear hb hbox hg; have hnb49 := NB101_102.out; have hnc49 := NB102_101.out; have hnb50 := NB101_103.out; have hnc50 := NB103_101.out; have hnb51 := NB101_104.out; have hnc51 := NB104_101.out; obtain ⟨hcz52_0, hcz52_1⟩ := cz2_ BK101.out; obtain ⟨hfz52_0, hfz52_1⟩ := fz2_ BK101.out; have hnb53 := NB102_103.out; have hnc53 := NB103_102.out; have hnb54 := NB102_104.out; have hnc54 := NB104_102.out; obtain ⟨hcz55_0, hcz55_1⟩ := cz2_ BK102.out; obtain ⟨hfz55_0, hfz55_1⟩ := fz2_ BK102.out; have hnb56 := NB103_104.out; have hnc56 := NB104_103.out; obtain ⟨hcz57_0, hcz57_1⟩ := cz2_ BK103.out; obtain ⟨hfz57_0, hfz57_1⟩ := fz2_ BK103.out; obtain ⟨hcz58_0, hcz58_1⟩ := cz2_ BK104.out; obtain ⟨hfz58_0, hfz58_1⟩ := fz2_ BK104.out) | ((with_reducible refine an_ (f := 87) rfl ?_); refine aU_ (some 13) rfl rfl Try.func87 (by kernel_rfl) rfl #[.agg #[.int .i64 a0_0, .int .i64 a0_1], .agg #[.int .i64 a1_0, .int .i64 a1_1], .agg #[.int .i64 a2_0, .int .i64 a2_1], .agg #[.int .i64 a3_0, .int .i64 a3_1]] rfl (by first | rfl | (simp only [lma_, lmc_, lmn_]; first | done | rfl)) ?_; (with_reducible refine (aX_.calls a0_0 a0_1 a1_0 a1_1 a2_0 a2_1 a3_0 a3_1 false _ A5.out).mono ?_); rintro e w59 ⟨rfl, hb⟩; refine ⟨_, rfl, ?_⟩; replace BK101 := Aside0.mk (aa_ (kz BK101.out) hb); replace BK102 := Aside0.mk (aa_ (kz BK102.out) hb); replace BK103 := Aside0.mk (aa_ (kz BK103.out) hb); replace BK104 := Aside0.mk (aa_ (kz BK104.out) hb); replace HB := Aside0.mk (ad_ (bq) hb); (try clear hb); obtain ⟨hcz60_0, hcz60_1⟩ := cz2_ BK101.out; obtain ⟨hfz60_0, hfz60_1⟩ := fz2_ BK101.out; obtain ⟨hcz61_0, hcz61_1⟩ := cz2_ BK102.out; obtain ⟨hfz61_0, hfz61_1⟩ := fz2_ BK102.out; obtain ⟨hcz62_0, hcz62_1⟩ := cz2_ BK103.out; obtain ⟨hfz62_0, hfz62_1⟩ := fz2_ BK103.out) | (go_at_call 76; (with_reducible refine (aH_.calls a0_0 a0_1 a1_0 a1_1 a2_0 a2_1 false _ A22.out).mono ?_); rintro e w63 ⟨rfl, hb⟩; replace BK101 := Aside0.mk (aa_ (kz BK101.out) hb); replace BK102 := Aside0.mk (aa_ (kz BK102.out) hb); replace BK103 := Aside0.mk (aa_ (kz BK103.out) hb); replace BK104 := Aside0.mk (aa_ (kz BK104.out) hb); replace HB := Aside0.mk (ad_ (bq) hb); (try clear hb); obtain ⟨hcz64_0, hcz64_1⟩ := cz2_ BK101.out; obtain ⟨hfz64_0, hfz64_1⟩ := fz2_ BK101.out; obtain ⟨hcz65_0, hcz65_1⟩ := cz2_ BK102.out; obtain ⟨hfz65_0, hfz65_1⟩ := fz2_ BK102.out; obtain ⟨hcz66_0, hcz66_1⟩ := cz2_ BK104.out; obtain ⟨hfz66_0, hfz66_1⟩ := fz2_ BK104.out) | (go_at_call 76; (with_reducible refine (aH_.calls a0_0 a0_1 a1_0 a1_1 a3_0 a3_1 true _ A43.out).mono ?_); rintro e w67 ⟨rfl, hb⟩; replace BK101 := Aside0.mk (aa_ (kz BK101.out) hb); replace BK102 := Aside0.mk (aa_ (kz BK102.out) hb); replace BK103 := Aside0.mk (aa_ (kz BK103.out) hb); replace BK104 := Aside0.mk (aa_ (kz BK104.out) hb); replace HB := Aside0.mk (ad_ (bq) hb); (try clear hb)))
   go_ret
   exact ⟨by first | rfl | (simp [*, ah_, ai_] <;> rfl), bq⟩
  subst c23
  have H1 : (some true) = some r := by rw [if_pos rfl] at H; exact H
  clear H
  have H := H1
  clear H1
  obtain rfl := Option.some.inj H
  go_enter Try.func77, Try.ntmps77
  go_wp2_with (first | ((with_reducible refine al_ (N := 4) rfl ?_); refine ak_ ?hg (N := 4) ?hd (cs := #[.int .i64 a0_0, .int .i64 a0_1]) (t := 81) ?hr ?_; (case hd => rfl); (case hg => rfl); (case hr => (go_simp; try rfl)); intro gb101 hg w24 hbox hb; have BK101 := Aside0.mk (hbox); have GW101 := Aside0.mk ((by rw [hg]; exact (ae_ (bz HB.out)) : w.heap.size ≤ gb101)); have GE101 := GW101; replace HB := Aside0.mk (ad_ (bz HB.out) hb); clear hb hbox hg) | ((with_reducible refine al_ (N := 5) rfl ?_); refine ak_ ?hg (N := 5) ?hd (cs := #[.int .i64 a1_0, .int .i64 a1_1]) (t := 81) ?hr ?_; (case hd => rfl); (case hg => rfl); (case hr => (go_simp; try rfl)); intro gb102 hg w25 hbox hb; have BK102 := Aside0.mk (hbox); have GW102 := Aside0.mk ((by rw [hg]; exact (ae_ (bq)) : w.heap.size ≤ gb102)); have GE102 := GW102; replace HB := Aside0.mk (ad_ (bq) hb); have NB101_102 := Aside0.mk ((by rw [hg]; exact Nat.ne_of_lt (aj_ (kz BK101.out)) : gb101 ≠ gb102)); have NB102_101 := Aside0.mk ((by rw [hg]; exact Nat.ne_of_gt (aj_ (kz BK101.out)) : gb102 ≠ gb101)); replace BK101 := Aside0.mk (aa_ (kz BK101.out) hb); clear hb hbox hg) | ((with_reducible refine al_ (N := 6) rfl ?_); refine ak_ ?hg (N := 6) ?hd (cs := #[.int .i64 a2_0, .int .i64 a2_1]) (t := 81) ?hr ?_; (case hd => rfl); (case hg => rfl); (case hr => (go_simp; try rfl)); intro gb103 hg w26 hbox hb; have BK103 := Aside0.mk (hbox); have GW103 := Aside0.mk ((by rw [hg]; exact (ae_ (bq)) : w.heap.size ≤ gb103)); have GE103 := GW103; replace HB := Aside0.mk (ad_ (bq) hb); have NB101_103 := Aside0.mk ((by rw [hg]; exact Nat.ne_of_lt (aj_ (kz BK101.out)) : gb101 ≠ gb103)); have NB103_101 := Aside0.mk ((by rw [hg]; exact Nat.ne_of_gt (aj_ (kz BK101.out)) : gb103 ≠ gb101)); replace BK101 := Aside0.mk (aa_ (kz BK101.out) hb); have NB102_103 := Aside0.mk ((by rw [hg]; exact Nat.ne_of_lt (aj_ (kz BK102.out)) : gb102 ≠ gb103)); have NB103_102 := Aside0.mk ((by rw [hg]; exact Nat.ne_of_gt (aj_ (kz BK102.out)) : gb103 ≠ gb102)); replace BK102 := Aside0.mk (aa_ (kz BK102.out) hb); clear hb hbox hg) | ((with_reducible refine al_ (N := 7) rfl ?_); refine ak_ ?hg (N := 7) ?hd (cs := #[.int .i64 a3_0, .int .i64 a3_1]) (t := 81) ?hr ?_; (case hd => rfl); (case hg => rfl); (case hr => (go_simp; try rfl)); intro gb104 hg w27 hbox hb; have BK104 := Aside0.mk (hbox); have GW104 := Aside0.mk ((by rw [hg]; exact (ae_ (bq)) : w.heap.size ≤ gb104)); have GE104 := GW104; replace HB := Aside0.mk (ad_ (bq) hb); have NB101_104 := Aside0.mk ((by rw [hg]; exact Nat.ne_of_lt (aj_ (kz BK101.out)) : gb101 ≠ gb104)); have NB104_101 := Aside0.mk ((by rw [hg]; exact Nat.ne_of_gt (aj_ (kz BK101.out)) : gb104 ≠ gb101)); replace BK101 := Aside0.mk (aa_ (kz BK101.out) hb); have NB102_104 := Aside0.mk ((by rw [hg]; exact Nat.ne_of_lt (aj_ (kz BK102.out)) : gb102 ≠ gb104)); have NB104_102 := Aside0.mk ((by rw [hg]; exact Nat.ne_of_gt (aj_ (kz BK102.out)) : gb104 ≠ gb102)); replace BK102 := Aside0.mk (aa_ (kz BK102.out) hb); have NB103_104 := Aside0.mk ((by rw [hg]; exact Nat.ne_of_lt (aj_ (kz BK103.out)) : gb103 ≠ gb104)); have NB104_103 := Aside0.mk ((by rw [hg]; exact Nat.ne_of_gt (aj_ (kz BK103.out)) : gb104 ≠ gb103)); replace BK103 := Aside0.mk (aa_ (kz BK103.out) hb); clear hb hbox hg; have hnb28 := NB101_102.out; have hnc28 := NB102_101.out; have hnb29 := NB101_103.out; have hnc29 := NB103_101.out; have hnb30 := NB101_104.out; have hnc30 := NB104_101.out; obtain ⟨hcz31_0, hcz31_1⟩ := cz2_ BK101.out; obtain ⟨hfz31_0, hfz31_1⟩ := fz2_ BK101.out; have hnb32 := NB102_103.out; have hnc32 := NB103_102.out; have hnb33 := NB102_104.out; have hnc33 := NB104_102.out; obtain ⟨hcz34_0, hcz34_1⟩ := cz2_ BK102.out; obtain ⟨hfz34_0, hfz34_1⟩ := fz2_ BK102.out; have hnb35 := NB103_104.out; have hnc35 := NB104_103.out; obtain ⟨hcz36_0, hcz36_1⟩ := cz2_ BK103.out; obtain ⟨hfz36_0, hfz36_1⟩ := fz2_ BK103.out; obtain ⟨hcz37_0, hcz37_1⟩ := cz2_ BK104.out; obtain ⟨hfz37_0, hfz37_1⟩ := fz2_ BK104.out) | ((with_reducible refine an_ (f := 87) rfl ?_); refine aU_ (some 13) rfl rfl Try.func87 (by kernel_rfl) rfl #[.agg #[.int .i64 a0_0, .int .i64 a0_1], .agg #[.int .i64 a1_0, .int .i64 a1_1], .agg #[.int .i64 a2_0, .int .i64 a2_1], .agg #[.int .i64 a3_0, .int .i64 a3_1]] rfl (by first | rfl | (simp only [lma_, lmc_, lmn_]; first | done | rfl)) ?_; (with_reducible refine (aX_.calls a0_0 a0_1 a1_0 a1_1 a2_0 a2_1 a3_0 a3_1 false _ A5.out).mono ?_); rintro e w38 ⟨rfl, hb⟩; refine ⟨_, rfl, ?_⟩; replace BK101 := Aside0.mk (aa_ (kz BK101.out) hb); replace BK102 := Aside0.mk (aa_ (kz BK102.out) hb); replace BK103 := Aside0.mk (aa_ (kz BK103.out) hb); replace BK104 := Aside0.mk (aa_ (kz BK104.out) hb); replace HB := Aside0.mk (ad_ (bq) hb); (try clear hb); obtain ⟨hcz39_0, hcz39_1⟩ := cz2_ BK101.out; obtain ⟨hfz39_0, hfz39_1⟩ := fz2_ BK101.out; obtain ⟨hcz40_0, hcz40_1⟩ := cz2_ BK102.out; obtain ⟨hfz40_0, hfz40_1⟩ := fz2_ BK102.out; obtain ⟨hcz41_0, hcz41_1⟩ := cz2_ BK103.out; obtain ⟨hfz41_0, hfz41_1⟩ := fz2_ BK103.out) | (go_at_call 76; (with_reducible refine (aH_.calls a0_0 a0_1 a1_0 a1_1 a2_0 a2_1 true _ A22.out).mono ?_); rintro e w42 ⟨rfl, hb⟩; replace BK101 := Aside0.mk (aa_ (kz BK101.out) hb); replace BK102 := Aside0.mk (aa_ (kz BK102.out) hb); replace BK103 := Aside0.mk (aa_ (kz BK103.out) hb); replace BK104 := Aside0.mk (aa_ (kz BK104.out) hb); replace HB := Aside0.mk (ad_ (bq) hb); (try clear hb)))
  go_ret
  exact ⟨by first | rfl | (simp [*, ah_, ai_] <;> rfl), bq⟩
 subst c6
 have H1 : (some true) = some r := by rw [if_pos rfl] at H; exact H
 clear H
 have H := H1
 clear H1
 obtain rfl := Option.some.inj H
 go_enter Try.func77, Try.ntmps77
 go_wp2_with (first | ((with_reducible refine al_ (N := 4) rfl ?_); refine ak_ ?hg (N := 4) ?hd (cs := #[.int .i64 a0_0, .int .i64 a0_1]) (t := 81) ?hr ?_; (case hd => rfl); (case hg => rfl); (case hr => (go_simp; try rfl)); intro gb101 hg w7 hbox hb; have BK101 := Aside0.mk (hbox); have GW101 := Aside0.mk ((by rw [hg]; exact (ae_ (bz HB.out)) : w.heap.size ≤ gb101)); have GE101 := GW101; replace HB := Aside0.mk (ad_ (bz HB.out) hb); clear hb hbox hg) | ((with_reducible refine al_ (N := 5) rfl ?_); refine ak_ ?hg (N := 5) ?hd (cs := #[.int .i64 a1_0, .int .i64 a1_1]) (t := 81) ?hr ?_; (case hd => rfl); (case hg => rfl); (case hr => (go_simp; try rfl)); intro gb102 hg w8 hbox hb; have BK102 := Aside0.mk (hbox); have GW102 := Aside0.mk ((by rw [hg]; exact (ae_ (bq)) : w.heap.size ≤ gb102)); have GE102 := GW102; replace HB := Aside0.mk (ad_ (bq) hb); have NB101_102 := Aside0.mk ((by rw [hg]; exact Nat.ne_of_lt (aj_ (kz BK101.out)) : gb101 ≠ gb102)); have NB102_101 := Aside0.mk ((by rw [hg]; exact Nat.ne_of_gt (aj_ (kz BK101.out)) : gb102 ≠ gb101)); replace BK101 := Aside0.mk (aa_ (kz BK101.out) hb); clear hb hbox hg) | ((with_reducible refine al_ (N := 6) rfl ?_); refine ak_ ?hg (N := 6) ?hd (cs := #[.int .i64 a2_0, .int .i64 a2_1]) (t := 81) ?hr ?_; (case hd => rfl); (case hg => rfl); (case hr => (go_simp; try rfl)); intro gb103 hg w9 hbox hb; have BK103 := Aside0.mk (hbox); have GW103 := Aside0.mk ((by rw [hg]; exact (ae_ (bq)) : w.heap.size ≤ gb103)); have GE103 := GW103; replace HB := Aside0.mk (ad_ (bq) hb); have NB101_103 := Aside0.mk ((by rw [hg]; exact Nat.ne_of_lt (aj_ (kz BK101.out)) : gb101 ≠ gb103)); have NB103_101 := Aside0.mk ((by rw [hg]; exact Nat.ne_of_gt (aj_ (kz BK101.out)) : gb103 ≠ gb101)); replace BK101 := Aside0.mk (aa_ (kz BK101.out) hb); have NB102_103 := Aside0.mk ((by rw [hg]; exact Nat.ne_of_lt (aj_ (kz BK102.out)) : gb102 ≠ gb103)); have NB103_102 := Aside0.mk ((by rw [hg]; exact Nat.ne_of_gt (aj_ (kz BK102.out)) : gb103 ≠ gb102)); replace BK102 := Aside0.mk (aa_ (kz BK102.out) hb); clear hb hbox hg) | ((with_reducible refine al_ (N := 7) rfl ?_); refine ak_ ?hg (N := 7) ?hd (cs := #[.int .i64 a3_0, .int .i64 a3_1]) (t := 81) ?hr ?_; (case hd => rfl); (case hg => rfl); (case hr => (go_simp; try rfl)); intro gb104 hg w10 hbox hb; have BK104 := Aside0.mk (hbox); have GW104 := Aside0.mk ((by rw [hg]; exact (ae_ (bq)) : w.heap.size ≤ gb104)); have GE104 := GW104; replace HB := Aside0.mk (ad_ (bq) hb); have NB101_104 := Aside0.mk ((by rw [hg]; exact Nat.ne_of_lt (aj_ (kz BK101.out)) : gb101 ≠ gb104)); have NB104_101 := Aside0.mk ((by rw [hg]; exact Nat.ne_of_gt (aj_ (kz BK101.out)) : gb104 ≠ gb101)); replace BK101 := Aside0.mk (aa_ (kz BK101.out) hb); have NB102_104 := Aside0.mk ((by rw [hg]; exact Nat.ne_of_lt (aj_ (kz BK102.out)) : gb102 ≠ gb104)); have NB104_102 := Aside0.mk ((by rw [hg]; exact Nat.ne_of_gt (aj_ (kz BK102.out)) : gb104 ≠ gb102)); replace BK102 := Aside0.mk (aa_ (kz BK102.out) hb); have NB103_104 := Aside0.mk ((by rw [hg]; exact Nat.ne_of_lt (aj_ (kz BK103.out)) : gb103 ≠ gb104)); have NB104_103 := Aside0.mk ((by rw [hg]; exact Nat.ne_of_gt (aj_ (kz BK103.out)) : gb104 ≠ gb103)); replace BK103 := Aside0.mk (aa_ (kz BK103.out) hb); clear hb hbox hg; have hnb11 := NB101_102.out; have hnc11 := NB102_101.out; have hnb12 := NB101_103.out; have hnc12 := NB103_101.out; have hnb13 := NB101_104.out; have hnc13 := NB104_101.out; obtain ⟨hcz14_0, hcz14_1⟩ := cz2_ BK101.out; obtain ⟨hfz14_0, hfz14_1⟩ := fz2_ BK101.out; have hnb15 := NB102_103.out; have hnc15 := NB103_102.out; have hnb16 := NB102_104.out; have hnc16 := NB104_102.out; obtain ⟨hcz17_0, hcz17_1⟩ := cz2_ BK102.out; obtain ⟨hfz17_0, hfz17_1⟩ := fz2_ BK102.out; have hnb18 := NB103_104.out; have hnc18 := NB104_103.out; obtain ⟨hcz19_0, hcz19_1⟩ := cz2_ BK103.out; obtain ⟨hfz19_0, hfz19_1⟩ := fz2_ BK103.out; obtain ⟨hcz20_0, hcz20_1⟩ := cz2_ BK104.out; obtain ⟨hfz20_0, hfz20_1⟩ := fz2_ BK104.out) | ((with_reducible refine an_ (f := 87) rfl ?_); refine aU_ (some 13) rfl rfl Try.func87 (by kernel_rfl) rfl #[.agg #[.int .i64 a0_0, .int .i64 a0_1], .agg #[.int .i64 a1_0, .int .i64 a1_1], .agg #[.int .i64 a2_0, .int .i64 a2_1], .agg #[.int .i64 a3_0, .int .i64 a3_1]] rfl (by first | rfl | (simp only [lma_, lmc_, lmn_]; first | done | rfl)) ?_; (with_reducible refine (aX_.calls a0_0 a0_1 a1_0 a1_1 a2_0 a2_1 a3_0 a3_1 true _ A5.out).mono ?_); rintro e w21 ⟨rfl, hb⟩; refine ⟨_, rfl, ?_⟩; replace BK101 := Aside0.mk (aa_ (kz BK101.out) hb); replace BK102 := Aside0.mk (aa_ (kz BK102.out) hb); replace BK103 := Aside0.mk (aa_ (kz BK103.out) hb); replace BK104 := Aside0.mk (aa_ (kz BK104.out) hb); replace HB := Aside0.mk (ad_ (bq) hb); (try clear hb)))
 go_ret
 exact ⟨by first | rfl | (simp [*, ah_, ai_] <;> rfl), bq⟩
end Go.Proofs.Ytpjhnchfhghlcaa.Q
