/- For all arguments that the law's sizes let in, the program's MergeVersions gives what the reference gives. This text holds the functions' walks and the words for them. -/
import Derived.Lib.SliceRun
import Derived.Test.YtiheginanghhjaaKFnExactMergeVersionsa
import Derived.Test.YtiheginanghhjaaKFnExactMergeVersionsd
set_option linter.unusedVariables false
set_option linter.unusedSimpArgs false
namespace Go.Proofs.Ytiheginanghhjaa.Q
open Go.RowKit Go.Proofs.YtiheginanghhjaaW.PrintWords Go.Proofs.YtiheginanghhjaaW.PrintLast Go.Proofs.YtiheginanghhjaaW.PrintMore
attribute [local go_sem] aN_ aL_ bi_ bh_ aA_ az_ aO_ aM_
attribute [local go_sem high] eqA61
mutual
def aq_.j0 : Nat → List (S63) → List (S63) → List (S63) → Int → Bool → Option ((List (S63)) × Int)
 | 0, _, _, _, _, _ => none
 | k + 1, x0, x1, x2, x9, x27 => if x27 = true then (aq_.j1 k x0 x1 x2 6) else (aq_.j1 k x0 x1 x2 x9)
def aq_.j1 : Nat → List (S63) → List (S63) → List (S63) → Int → Option ((List (S63)) × Int)
 | 0, _, _, _, _ => none
 | k + 1, x0, x1, x2, x9 => if x9 = 0 then ((bj_.f k (([x1, x2] : List (List (S63))))).bind fun t111 => (aq_.l0 k x0 x1 x2 (([] : List (S63))) t111 (t111.length : Int) 0)) else (some (([] : List (S63)), x9))
def aq_.l0 : Nat → List (S63) → List (S63) → List (S63) → List (S63) → List ByteArray → Int → Int → Option ((List (S63)) × Int)
 | 0, _, _, _, _, _, _, _ => none
 | k + 1, x0, x1, x2, x10, x35, x36, x37 => if x37 < x36 then (if 0 ≤ x37 then (if x37 < (x35.length : Int) then ((bC_.f k x1 (rdOf ByteArray.empty x35 x37)).bind fun bt115 => ((bC_.f k x0 (rdOf ByteArray.empty x35 x37)).bind fun bt119 => (if (bt115.1.toList == bt119.1.toList && (bt115.2.1 == bt119.2.1 && (bt115.2.2 == bt119.2.2))) = true then ((bC_.f k x2 (rdOf ByteArray.empty x35 x37)).bind fun bt122 => (if (!(bt122.1.toList == ([] : List UInt8)) || (!(bt122.2.1 == 0) || (!(bt122.2.2 == 0)))) = true then (if x10.length < 2932031007402 then (aq_.l0 k x0 x1 x2 (x10 ++ [(⟨rdOf ByteArray.empty x35 x37, (⟨bt122.1, bt122.2.1, bt122.2.2⟩ : S61)⟩ : S63)]) x35 x36 (wrap64 (x37 + 1))) else (none)) else (aq_.l0 k x0 x1 x2 x10 x35 x36 (wrap64 (x37 + 1))))) else (if (!(bt115.1.toList == ([] : List UInt8)) || (!(bt115.2.1 == 0) || (!(bt115.2.2 == 0)))) = true then (if x10.length < 2932031007402 then (aq_.l0 k x0 x1 x2 (x10 ++ [(⟨rdOf ByteArray.empty x35 x37, (⟨bt115.1, bt115.2.1, bt115.2.2⟩ : S61)⟩ : S63)]) x35 x36 (wrap64 (x37 + 1))) else (none)) else (aq_.l0 k x0 x1 x2 x10 x35 x36 (wrap64 (x37 + 1))))))) else (none)) else (none)) else (if (x10.length : Int) > 24 then (some (([] : List (S63)), 5)) else (some (x10, 0)))
end
def aq_.f (k : Nat) (l0 : List (S63)) (l1 : List (S63)) (l2 : List (S63)) : Option ((List (S63)) × Int) := (aE_.f k l0 l1 l2).bind fun bt101 => (if bt101.2 = 0 then (aq_.j0 k l0 l1 l2 bt101.2 (decide ((bt101.1.length : Int) > 0))) else (aq_.j0 k l0 l1 l2 bt101.2 false))
set_option maxHeartbeats 8000000 in
set_option maxRecDepth 100000 in
theorem aq_.calls (k : Nat) (A0 : Option Addr) (c0 : Nat) (l0 : List (S63)) (P1_ : Nat → Prop) (A1 : Option Addr) (c1 : Nat) (l1 : List (S63)) (P2_ : Nat → Prop) (A2 : Option Addr) (c2 : Nat) (l2 : List (S63)) (r1 : List (S63)) (r2 : Int) (w : World) (hr0 : Kd.C k63 w A0 l0.length l0) (hc0 : l0.length ≤ c0) (hs1 : Kd.V k63 63 w w.heap.size (fun k_ => P1_ k_) (.slice A1 l1.length c1) l1) (hs2 : Kd.V k63 63 w w.heap.size (fun k_ => P2_ k_) (.slice A2 l2.length c2) l2) (h : aq_.f k l0 l1 l2 = some (r1, r2)) :
  Calls Try.prog 17 #[.slice A0 l0.length c0, .slice A1 l1.length c1, .slice A2 l2.length c2] w fun e w' => ∃ v0_ : Value, e = .returned (.tuple #[v0_, .int .i64 r2]) ∧ Kd.R k63 63 w' w.heap.size (fun k_ => (w.heap.size ≤ k_)) v0_ r1 ∧ Below w.heap.size w w' := by
 have hu61 := Try.underlying61
 have hu63 := Try.underlying63
 have HR0 := Aside0.mk hr0
 have HC0 := Aside0.mk hc0
 clear hr0 hc0
 have HO1 := Aside0.mk (show Kd.V k63 63 w w.heap.size (fun k_ => ((P1_ k_ ∨ P2_ k_) ∨ w.heap.size ≤ k_)) (.slice A1 l1.length c1) l1 from Kd.aW_ hs1 (fun k_ hk => .inl (.inl hk)))
 have HO2 := Aside0.mk (show Kd.V k63 63 w w.heap.size (fun k_ => ((P1_ k_ ∨ P2_ k_) ∨ w.heap.size ≤ k_)) (.slice A2 l2.length c2) l2 from Kd.aW_ hs2 (fun k_ hk => .inl (.inr hk)))
 have HB := Aside0.mk (Below.refl w.heap.size w)
 have H : ((aE_.f k l0 l1 l2).bind fun bt101 => (if bt101.2 = 0 then (aq_.j0 k l0 l1 l2 bt101.2 (decide ((bt101.1.length : Int) > 0))) else (aq_.j0 k l0 l1 l2 bt101.2 false))) = some (r1, r2) := h
 clear h
 replace H := Option.bind_eq_some_iff.mp H
 obtain ⟨⟨t101, t104⟩, A40, H⟩ := H
 (try dsimp only at H)
 have A4 := Aside0.mk A40
 clear A40
 have HC5 := Aside0.mk H
 clear H
 go_enter Try.func17, Try.ntmps17
 go_upto_region 2 with (first | ((with_reducible refine am_ (f := 10) rfl ?_); refine aX_ (some 18) rfl rfl Try.func10 (by kernel_rfl) rfl #[.slice A0 l0.length c0, .slice A1 l1.length c1, .slice A2 l2.length c2] rfl (by first | rfl | (simp only [List.map_toArray, List.map_cons, List.map_nil]; first | done | rfl)) ?_; (with_reducible refine (aE_.calls k (fun k_ => k_ < w.heap.size) _ _ l0 (fun k_ => ((P1_ k_ ∨ P2_ k_) ∨ w.heap.size ≤ k_)) _ _ l1 (fun k_ => ((P1_ k_ ∨ P2_ k_) ∨ w.heap.size ≤ k_)) _ _ l2 t101 t104 _ ?side1 ?side2 ?side3 A4.out).mono ?_); (case side1 => exact Kd.V_mk HC0.out (Kd.F_below (Kd.C_F k63_heap HR0.out) (bz HB.out))); (case side2 => exact HO1.out); (case side3 => exact HO2.out); rintro e w6 ⟨v102, rfl, ho0, hb⟩; refine ⟨_, rfl, ?_⟩; replace HO1 := Aside0.mk (Kd.bP_ (vz HO1.out) (Kd.bv_ ho0) hb); replace HO2 := Aside0.mk (Kd.bP_ (vz HO2.out) (Kd.bv_ ho0) hb); have HO103 := Aside0.mk (Kd.bI_ (Kd.dn_ (M := fun k_ => (w.heap.size ≤ k_)) (Kd.aK_ (ok' := fun k_ => True) ho0 (fun _ hk_ => trivial)) (ae_ (bz HB.out)) (fun k_ h_ => h_)) (ae_ (bz HB.out))); replace HB := Aside0.mk (ag_ (bz HB.out) hb); (try clear hb); (try clear ho0)))
 (try simp only [Act.put, lsa_, ls0_, ls1_])
 go_cut [27] (fun v27 wc => ∃ (kq : Nat) (x27_4 : Bool), v27 = .bool x27_4 ∧ Aside0 (aq_.j0 kq l0 l1 l2 t104 x27_4 = some (r1, r2)) ∧ Aside0 (kq ≤ k) ∧ Aside0 (Kd.V k63 63 wc w.heap.size (fun k_ => ((P1_ k_ ∨ P2_ k_) ∨ w.heap.size ≤ k_)) (.slice A1 l1.length c1) l1) ∧ Aside0 (Kd.V k63 63 wc w.heap.size (fun k_ => ((P1_ k_ ∨ P2_ k_) ∨ w.heap.size ≤ k_)) (.slice A2 l2.length c2) l2) ∧ Aside0 (Below w.heap.size w wc))
 case first =>
  have H := HC5.out
  clear HC5
  by_cases c7 : t104 = 0
  rotate_left
  ·rw [if_neg c7] at H
   have c7b0 : (t104 == 0) = false := beq_eq_false_iff_ne.mpr c7
   have c7b1 : (t104 != 0) = true := bne_iff_ne.mpr c7
   (first | rw [c7b0] | (simp only [i64_w, i32_w]; rw [c7b0]) | (simp only [c7b1, Bool.not_true, Bool.not_false]) | (simp only [c7b0, Bool.not_true, Bool.not_false]) | skip)
   have H' := Aside0.mk H
   clear H
   go_wp2
   go_meet
   case rel => exact ⟨_, (false), (by first | rfl | (simp; done) | (simp [*]; done)), H', ⟨by first | omega | exact Nat.le_refl _⟩, ⟨vz (Kd.aW_ HO1.out (fun _ hk => hk.1))⟩, ⟨vz (Kd.aW_ HO2.out (fun _ hk => hk.1))⟩, ⟨bz HB.out⟩⟩
  rw [if_pos c7] at H
  have c7b0 : (t104 == 0) = true := beq_iff_eq.mpr c7
  have c7b1 : (t104 != 0) = false := bne_eq_false_iff_eq.mpr c7
  clear c7
  (first | rw [c7b0] | (simp only [i64_w, i32_w]; rw [c7b0]) | (simp only [c7b1, Bool.not_true, Bool.not_false]) | (simp only [c7b0, Bool.not_true, Bool.not_false]) | skip)
  have H' := Aside0.mk H
  clear H
  obtain ⟨Ao8, co8, eo8⟩ := Kd.bF_ HO103.out
  subst eo8
  go_wp2
  go_meet
  case rel => exact ⟨_, (decide ((t101.length : Int) > 0)), (by first | rfl | (simp; done) | (simp [*]; done)), H', ⟨by first | omega | exact Nat.le_refl _⟩, ⟨vz (Kd.aW_ HO1.out (fun _ hk => hk.1))⟩, ⟨vz (Kd.aW_ HO2.out (fun _ hk => hk.1))⟩, ⟨bz HB.out⟩⟩
 case rest =>
  clear HC5
  obtain ⟨kq, x27_4, rfl, HA, HJ4, HO_1, HO_2, HB⟩ := hcut
  cases kq with
  | zero => exact absurd HA.out (by simp [aq_.j0])
  | succ kj4 =>
   have H := HA.out
   clear HA
   simp only [aq_.j0] at H
   have HC9 := Aside0.mk H
   clear H
   go_upto_if 27 with (fail)
   go_cut [9] (fun v9 wc => ∃ (kq : Nat) (x9_8 : Int), v9 = .int .i64 x9_8 ∧ Aside0 (aq_.j1 kq l0 l1 l2 x9_8 = some (r1, r2)) ∧ Aside0 (kq ≤ kj4) ∧ Aside0 (Kd.V k63 63 wc w.heap.size (fun k_ => ((P1_ k_ ∨ P2_ k_) ∨ w.heap.size ≤ k_)) (.slice A1 l1.length c1) l1) ∧ Aside0 (Kd.V k63 63 wc w.heap.size (fun k_ => ((P1_ k_ ∨ P2_ k_) ∨ w.heap.size ≤ k_)) (.slice A2 l2.length c2) l2) ∧ Aside0 (Below w.heap.size w wc))
   case first =>
    have H := HC9.out
    clear HC9
    by_cases c10 : x27_4 = true
    rotate_left
    ·replace c10 := Bool.eq_false_iff.mpr c10
     subst c10
     have H1 : (aq_.j1 kj4 l0 l1 l2 t104) = some (r1, r2) := by rw [if_neg (show ¬ (false = true) by decide)] at H; exact H
     clear H
     have H := H1
     clear H1
     have H' := Aside0.mk H
     clear H
     go_wp2
     go_meet
     case rel => exact ⟨_, (t104), (by first | rfl | (simp; done) | (simp [*]; done)), H', ⟨by have := HJ4.out; first | omega | exact Nat.le_refl _⟩, ⟨vz HO_1.out⟩, ⟨vz HO_2.out⟩, ⟨bz HB.out⟩⟩
    subst c10
    have H1 : (aq_.j1 kj4 l0 l1 l2 6) = some (r1, r2) := by rw [if_pos rfl] at H; exact H
    clear H
    have H := H1
    clear H1
    have H' := Aside0.mk H
    clear H
    go_wp2
    go_meet
    case rel => exact ⟨_, (6), (by first | rfl | (simp; done) | (simp [*]; done)), H', ⟨by have := HJ4.out; first | omega | exact Nat.le_refl _⟩, ⟨vz HO_1.out⟩, ⟨vz HO_2.out⟩, ⟨bz HB.out⟩⟩
   case rest =>
    clear HC9
    obtain ⟨kq, x9_8, rfl, HA, HJ8, HO_1, HO_2, HB⟩ := hcut
    cases kq with
    | zero => exact absurd HA.out (by simp [aq_.j1])
    | succ kj8 =>
     have H := HA.out
     clear HA
     simp only [aq_.j1] at H
     by_cases c11 : x9_8 = 0
     rotate_left
     ·rw [if_neg c11] at H
      have c11b0 : (x9_8 == 0) = false := beq_eq_false_iff_ne.mpr c11
      have c11b1 : (x9_8 != 0) = true := bne_iff_ne.mpr c11
      simp only [Option.some.injEq, Prod.mk.injEq] at H
      obtain ⟨rfl, rfl⟩ := H
      go_wp2
      go_ret2
      exact ⟨_, by first | rfl | (simp [*, an_, ao_] <;> rfl), by first | exact Kd.R_nil _ _ _ _ _ | exact Kd.N_nil _ _ _ _ _ | exact Kd.V_nil _ _ _ _ _ | exact Kd.Q_nil _ _ _ _ _ | exact Kd.S_nil _ _ _ _ _, bz HB.out⟩
     rw [if_pos c11] at H
     have c11b0 : (x9_8 == 0) = true := beq_iff_eq.mpr c11
     have c11b1 : (x9_8 != 0) = false := bne_eq_false_iff_eq.mpr c11
     clear c11
     obtain ⟨y105, hy105⟩ : ∃ y_ : List (S63), y_ = (([] : List (S63))) := ⟨_, rfl⟩
     replace H : ((bj_.f kj8 (([l1, l2] : List (List (S63))))).bind fun t111 => (aq_.l0 kj8 l0 l1 l2 y105 t111 (t111.length : Int) 0)) = some (r1, r2) := by first | (rw [hy105]; with_reducible exact H) | (have H2_ := (Option.bind_some _ _).symm.trans H; rw [hy105]; with_reducible exact H2_) | (have H2_ := (Option.bind_some _ _).symm.trans H; with_reducible exact H2_) | with_reducible exact H | (rw [hy105]; exact H) | exact H
     have Ny105 := Aside0.mk hy105
     clear hy105
     obtain ⟨y108, hy108⟩ : ∃ y_ : List (List (S63)), y_ = (([l1, l2] : List (List (S63)))) := ⟨_, rfl⟩
     replace H : ((bj_.f kj8 y108).bind fun t111 => (aq_.l0 kj8 l0 l1 l2 y105 t111 (t111.length : Int) 0)) = some (r1, r2) := by first | (rw [hy108]; with_reducible exact H) | (have H2_ := (Option.bind_some _ _).symm.trans H; rw [hy108]; with_reducible exact H2_) | (have H2_ := (Option.bind_some _ _).symm.trans H; with_reducible exact H2_) | with_reducible exact H | (rw [hy108]; exact H) | exact H
     have Ny108 := Aside0.mk hy108
     clear hy108
     replace H := Option.bind_eq_some_iff.mp H
     obtain ⟨t111, A120, H⟩ := H
     (try dsimp only at H)
     have A12 := Aside0.mk A120
     clear A120
     have H' := Aside0.mk H
     clear H
     go_wp2_with (first | ((with_reducible refine au_ (N := 31) rfl ?_); (try (refine gate_guard (by rfl) ?_; dsimp only)); refine Kd.R_lit k63 _ 63 ?hg (N := 31) ?hd (xs := ([] : List (S63))) (inner := []) (ok := fun _ => True) (okp := fun _ => True) ?hr ?hp (fun _ hk => hk) trivial (Below.refl _ _) (Nat.le_refl _) (by simp) ?_; (case hd => rfl); (case hg => rfl); (case hr => (go_simp; try rfl)); (case hp => exact (Reps.none _ _)); intro v106 w13 ho14 hb hg_ hnew_; clear hg_ hnew_; (first | rw [← Ny105.out] at ho14 | (simp only [Int.reduceToNat] at ho14; rw [← Ny105.out] at ho14)); replace HO_1 := Aside0.mk (Kd.bP_ (vz HO_1.out) (Kd.bv_ ho14) hb); replace HO_2 := Aside0.mk (Kd.bP_ (vz HO_2.out) (Kd.bv_ ho14) hb); have HO107 := Aside0.mk (Kd.bI_ (Kd.dn_ (M := fun k_ => (w.heap.size ≤ k_)) ho14 (ae_ (bz HB.out)) (fun k_ h_ => h_)) (ae_ (bz HB.out))); replace HB := Aside0.mk (ag_ (bz HB.out) hb); clear hb ho14) | ((with_reducible refine au_ (N := 34) rfl ?_); (try (refine gate_guard (by rfl) ?_; dsimp only)); refine Kd.N_lit (Kd.slice 63 k63) _ 27 ?hg (N' := 34) ?hd (xs := ([l1, l2] : List (List (S63)))) (inner := [.slice A1 l1.length c1, .slice A2 l2.length c2]) (ok := (fun k_ => ((P1_ k_ ∨ P2_ k_) ∨ w.heap.size ≤ k_) ∧ some k_ ≠ (v106 : Value).ownBlock)) (okp := (fun k_ => ((P1_ k_ ∨ P2_ k_) ∨ w.heap.size ≤ k_) ∧ some k_ ≠ (v106 : Value).ownBlock)) ?hr ?hp (fun _ hk => hk) ((show ∀ k_, w13.heap.size ≤ k_ → (fun k_ => ((P1_ k_ ∨ P2_ k_) ∨ w.heap.size ≤ k_) ∧ some k_ ≠ (v106 : Value).ownBlock) k_ from fun k_ hk => ⟨(.inr (Nat.le_trans (ae_ (bz HB.out)) hk)), Kd.fresh' (Kd.R_lt (rz HO107.out)) k_ hk⟩) _ (Nat.le_refl _)) (Below.refl _ _) (Nat.le_refl _) (by simp) ?_; (case hd => rfl); (case hg => rfl); (case hr => (go_simp; try rfl)); (case hp => exact (Reps.one (show Kd.FK (Kd.slice 63 k63) _ _ l1 [.slice A1 l1.length c1] from (Kd.cl_ (Kd.bb_ (Kd.aW_ (ok' := (fun k_ => ((P1_ k_ ∨ P2_ k_) ∨ w.heap.size ≤ k_) ∧ some k_ ≠ (v106 : Value).ownBlock)) (HO_1.out) (fun k_ hk => ⟨hk.1, hk.2⟩))).2.1 (Kd.V_F (Kd.aW_ (ok' := (fun k_ => ((P1_ k_ ∨ P2_ k_) ∨ w.heap.size ≤ k_) ∧ some k_ ≠ (v106 : Value).ownBlock)) (HO_1.out) (fun k_ hk => ⟨hk.1, hk.2⟩))))) (Reps.one (show Kd.FK (Kd.slice 63 k63) _ _ l2 [.slice A2 l2.length c2] from (Kd.cl_ (Kd.bb_ (Kd.aW_ (ok' := (fun k_ => ((P1_ k_ ∨ P2_ k_) ∨ w.heap.size ≤ k_) ∧ some k_ ≠ (v106 : Value).ownBlock)) (HO_2.out) (fun k_ hk => ⟨hk.1, hk.2⟩))).2.1 (Kd.V_F (Kd.aW_ (ok' := (fun k_ => ((P1_ k_ ∨ P2_ k_) ∨ w.heap.size ≤ k_) ∧ some k_ ≠ (v106 : Value).ownBlock)) (HO_2.out) (fun k_ hk => ⟨hk.1, hk.2⟩))))) (Reps.none _ _)))); intro v109 w15 ho16 hb hg_ hnew_; clear hg_ hnew_; (first | rw [← Ny108.out] at ho16 | (simp only [Int.reduceToNat] at ho16; rw [← Ny108.out] at ho16)); replace HO_1 := Aside0.mk (Kd.bP_ (vz HO_1.out) (Kd.N_base ho16) hb); replace HO_2 := Aside0.mk (Kd.bP_ (vz HO_2.out) (Kd.N_base ho16) hb); replace HO107 := Aside0.mk (Kd.aH_ (rz HO107.out) hb); have HO110 := Aside0.mk (Kd.dt_ ho16 (ae_ (bz HB.out))); replace HB := Aside0.mk (ag_ (bz HB.out) hb); clear hb ho16; obtain ⟨Ao17, co17, eo17⟩ := Kd.dz_ HO110.out; subst eo17) | ((with_reducible refine am_ (f := 40) rfl ?_); refine aX_ (some 35) rfl rfl Try.func40 (by kernel_rfl) rfl #[.slice Ao17 y108.length co17] rfl (by first | rfl | (simp only [List.map_toArray, List.map_cons, List.map_nil]; first | done | rfl)) ?_; (with_reducible refine (bj_.calls kj8 _ _ y108 t111 _ ?side1 ?side2 A12.out).mono ?_); (case side1 => exact cz (Kd.cp_ HO110.out).2.2); (case side2 => exact (Kd.cp_ HO110.out).2.1); rintro e w18 ⟨v112, rfl, ho0, hb⟩; refine ⟨_, rfl, ?_⟩; replace HO_1 := Aside0.mk (Kd.bP_ (vz HO_1.out) (Kd.bv_ ho0) hb); replace HO_2 := Aside0.mk (Kd.bP_ (vz HO_2.out) (Kd.bv_ ho0) hb); replace HO107 := Aside0.mk (Kd.aH_ (rz HO107.out) hb); replace HO110 := Aside0.mk (Kd.N_elder' (nz HO110.out) (Kd.bv_ ho0) hb); have HO113 := Aside0.mk (Kd.bI_ (Kd.dn_ (M := fun k_ => (w.heap.size ≤ k_)) ho0 (ae_ (bz HB.out)) (fun k_ h_ => h_)) (ae_ (bz HB.out))); replace HB := Aside0.mk (ag_ (bz HB.out) hb); (try clear hb); (try clear ho0); obtain ⟨Ao19, co19, eo19⟩ := Kd.bF_ HO113.out; subst eo19))
     (try simp only [Act.put, lsa_, ls0_, ls1_])
     go_loopg [10, 37] kj8 (fun kq v10 v37 w' => ∃ (x10_3 : List (S63)) (x37_3 : Int), v37 = .int .i64 x37_3 ∧ Aside0 (aq_.l0 kq l0 l1 l2 x10_3 t111 (t111.length : Int) x37_3 = some (r1, r2)) ∧ Aside0 (kq ≤ kj8) ∧ Aside0 (Kd.V k63 63 w' w.heap.size (fun k_ => ((P1_ k_ ∨ P2_ k_) ∨ w.heap.size ≤ k_) ∧ some k_ ≠ (v10 : Value).ownBlock ∧ some k_ ≠ ((.slice Ao19 t111.length co19) : Value).ownBlock) (.slice A1 l1.length c1) l1) ∧ Aside0 (Kd.V k63 63 w' w.heap.size (fun k_ => ((P1_ k_ ∨ P2_ k_) ∨ w.heap.size ≤ k_) ∧ some k_ ≠ (v10 : Value).ownBlock ∧ some k_ ≠ ((.slice Ao19 t111.length co19) : Value).ownBlock) (.slice A2 l2.length c2) l2) ∧ Aside0 (Kd.R k63 63 w' w.heap.size (fun k_ => (w.heap.size ≤ k_)) v10 x10_3) ∧ Aside0 (Kd.R Kd.string 9 w' w.heap.size (fun k_ => (w.heap.size ≤ k_)) (.slice Ao19 t111.length co19) t111) ∧ Aside0 (Below w.heap.size w w'))
     case atStart => exact ⟨(y105), (0), (by first | rfl | (simp; done) | (simp [*]; done)), H', ⟨Nat.le_refl _⟩, ⟨vz (Kd.aW_ HO_1.out (fun _ hk => ⟨hk.1.1.1, ⟨hk.1.1.2, hk.2⟩⟩))⟩, ⟨vz (Kd.aW_ HO_2.out (fun _ hk => ⟨hk.1.1.1, ⟨hk.1.1.2, hk.2⟩⟩))⟩, ⟨rz (Kd.aK_ HO107.out (fun _ hk => hk.1))⟩, ⟨rz (Kd.aK_ HO113.out (fun _ hk => hk.1))⟩, ⟨bz HB.out⟩⟩
     case round =>
      clear H'
      obtain ⟨x10_3, x37_3, rfl, HA, HK3, HO_1, HO_2, HO_10, HO_35, HB⟩ := hrel
      cases gk with
      | zero => exact absurd HA.out (by simp [aq_.l0])
      | succ k3 =>
       have H := HA.out
       clear HA
       simp only [aq_.l0] at H
       by_cases c20 : x37_3 < (t111.length : Int)
       rotate_left
       ·rw [if_neg c20] at H
        have c20b0 : decide (x37_3 < (t111.length : Int)) = false := decide_eq_false c20
        clear c20
        by_cases c46 : (x10_3.length : Int) > 24
        rotate_left
        ·rw [if_neg c46] at H
         have c46b0 : decide (24 < (x10_3.length : Int)) = false := decide_eq_false c46
         have c46b1 : decide (24 < x10_3.length) = false := decide_eq_false (by omega)
         clear c46
         simp only [Option.some.injEq, Prod.mk.injEq] at H
         obtain ⟨rfl, rfl⟩ := H
         obtain ⟨Ao48, co48, eo48⟩ := Kd.bF_ HO_10.out
         subst eo48
         go_wp2
         go_ret2
         exact ⟨_, by first | rfl | (simp [*, an_, ao_] <;> rfl), rz HO_10.out, bz HB.out⟩
        rw [if_pos c46] at H
        have c46b0 : decide (24 < (x10_3.length : Int)) = true := decide_eq_true c46
        have c46b1 : decide (24 < x10_3.length) = true := decide_eq_true (by omega)
        clear c46
        simp only [Option.some.injEq, Prod.mk.injEq] at H
        obtain ⟨rfl, rfl⟩ := H
        obtain ⟨Ao47, co47, eo47⟩ := Kd.bF_ HO_10.out
        subst eo47
        go_wp2
        go_ret2
        exact ⟨_, by first | rfl | (simp [*, an_, ao_] <;> rfl), by first | exact Kd.R_nil _ _ _ _ _ | exact Kd.N_nil _ _ _ _ _ | exact Kd.V_nil _ _ _ _ _ | exact Kd.Q_nil _ _ _ _ _ | exact Kd.S_nil _ _ _ _ _, bz HB.out⟩
       rw [if_pos c20] at H
       have c20b0 : decide (x37_3 < (t111.length : Int)) = true := decide_eq_true c20
       clear c20
       by_cases c21 : 0 ≤ x37_3
       rotate_left
       ·rw [if_neg c21] at H
        exact absurd H (by simp)
       rw [if_pos c21] at H
       have c21b0 : decide (0 ≤ x37_3) = true := decide_eq_true c21
       clear c21
       by_cases c22 : x37_3 < (t111.length : Int)
       rotate_left
       ·rw [if_neg c22] at H
        exact absurd H (by simp)
       rw [if_pos c22] at H
       have c22b0 : decide (x37_3 < (t111.length : Int)) = true := decide_eq_true c22
       clear c22
       replace H := Option.bind_eq_some_iff.mp H
       obtain ⟨⟨t115, t116, t117⟩, A230, H⟩ := H
       (try dsimp only at H)
       have A23 := Aside0.mk A230
       clear A230
       replace H := Option.bind_eq_some_iff.mp H
       obtain ⟨⟨t119, t120, t121⟩, A240, H⟩ := H
       (try dsimp only at H)
       have A24 := Aside0.mk A240
       clear A240
       have HC25 := Aside0.mk H
       clear H
       have p114 : 0 ≤ (x37_3 : Int) := of_decide_eq_true (by assumption)
       have q114 : x37_3 < (t111.length : Int) := of_decide_eq_true (by assumption)
       obtain ⟨ad114, e114, hx114_0⟩ := Kd.co_ (Kd.bf_ HO_35.out).2.2 x37_3 p114 q114
       cases e114
       replace p114 := eq_true p114
       replace q114 := eq_true q114
       try go_wp2_with (first | ((with_reducible refine am_ (f := 41) rfl ?_); refine aX_ (some 43) rfl rfl Try.func41 (by kernel_rfl) rfl #[.slice A1 l1.length c1, .string (rdOf ByteArray.empty t111 x37_3)] rfl (by first | rfl | (simp only [List.map_toArray, List.map_cons, List.map_nil]; first | done | rfl)) ?_; (with_reducible refine (bC_.calls k3 _ _ l1 (rdOf ByteArray.empty t111 x37_3) t115 t116 t117 _ ?side1 ?side2 A23.out).mono ?_); (case side1 => exact cz (Kd.bb_ HO_1.out).2.2); (case side2 => exact (Kd.bb_ HO_1.out).2.1); rintro e w26 ⟨rfl, hb⟩; refine ⟨_, rfl, ?_⟩; replace HO_1 := Aside0.mk (Kd.aS_ (vz HO_1.out) hb); replace HO_2 := Aside0.mk (Kd.aS_ (vz HO_2.out) hb); replace HO_10 := Aside0.mk (Kd.aH_ (rz HO_10.out) hb); replace HO_35 := Aside0.mk (Kd.aH_ (rz HO_35.out) hb); replace HB := Aside0.mk (ag_ (bz HB.out) hb); (try clear hb)) | ((with_reducible refine au_ (N := 13) rfl ?_); (try (refine gate_guard (by rfl) ?_; dsimp only)); refine aQ_ ?hg (N := 13) ?hd (cs := #[.string (⟨#[]⟩ : ByteArray), .int .i64 0, .int .i64 0]) (t := 61) ?hr ?_; (case hd => rfl); (case hg => rfl); (case hr => (go_simp; try rfl)); intro gb118 hg w27 hbox hb; replace HO_1 := Aside0.mk (Kd.aS_ (Kd.ca_ (vz HO_1.out) gb118 (Nat.le_of_eq hg.symm)) hb); replace HO_2 := Aside0.mk (Kd.aS_ (Kd.ca_ (vz HO_2.out) gb118 (Nat.le_of_eq hg.symm)) hb); replace HO_10 := Aside0.mk (Kd.aH_ (rz HO_10.out) hb); replace HO_35 := Aside0.mk (Kd.aH_ (rz HO_35.out) hb); have BK118 := Aside0.mk (hbox); have GW118 := Aside0.mk ((by rw [hg]; exact (ae_ (bz HB.out)) : w.heap.size ≤ gb118)); have GE118 := Aside0.mk ((by rw [hg]; exact (ae_ (bz HB.out)) : w.heap.size ≤ gb118)); replace HB := Aside0.mk (ag_ (bz HB.out) hb); clear hb hbox hg; have hcz28_0 : w27.cell? ⟨gb118, 0, none⟩ = some (.string (⟨#[]⟩ : ByteArray)) := (ab_ BK118.out 0).trans rfl; have hcz28_1 : w27.cell? ⟨gb118, 1, none⟩ = some (.int .i64 0) := (ab_ BK118.out 1).trans rfl; have hcz28_2 : w27.cell? ⟨gb118, 2, none⟩ = some (.int .i64 0) := (ab_ BK118.out 2).trans rfl; have hfz28_0 := aa_ BK118.out 0; have hfz28_1 := aa_ BK118.out 1; have hfz28_2 := aa_ BK118.out 2))
       have n0_ : Aside0 (Kd.V k63 63 (((w27.setCell ⟨gb118, 0, none⟩ (.string t115)).setCell ⟨gb118, 1, none⟩ (.int .i64 t116)).setCell ⟨gb118, 2, none⟩ (.int .i64 t117)) w.heap.size (fun k_ => ((P1_ k_ ∨ P2_ k_) ∨ w.heap.size ≤ k_) ∧ some k_ ≠ (u10 : Value).ownBlock ∧ some k_ ≠ (.slice (some ad114) t111.length co19 : Value).ownBlock ∧ k_ ≠ gb118) (.slice A1 l1.length c1) l1) := ⟨vz (Kd.aW_ (Kd.V_far (p := ⟨gb118, 2, none⟩) (Kd.V_far (p := ⟨gb118, 1, none⟩) (Kd.V_far (p := ⟨gb118, 0, none⟩) (Kd.aW_ HO_1.out (fun k_ hk => (⟨hk, hk.2⟩ : _ ∧ k_ ≠ gb118))) (fun _ hk => hk.2) (.string t115)) (fun _ hk => hk.2) (.int .i64 t116)) (fun _ hk => hk.2) (.int .i64 t117)) (fun _ hk => ⟨hk.1.1.1, ⟨hk.1.1.2.1, ⟨hk.1.1.2.2, hk.1.2⟩⟩⟩))⟩
       have n1_ : Aside0 (Kd.V k63 63 (((w27.setCell ⟨gb118, 0, none⟩ (.string t115)).setCell ⟨gb118, 1, none⟩ (.int .i64 t116)).setCell ⟨gb118, 2, none⟩ (.int .i64 t117)) w.heap.size (fun k_ => ((P1_ k_ ∨ P2_ k_) ∨ w.heap.size ≤ k_) ∧ some k_ ≠ (u10 : Value).ownBlock ∧ some k_ ≠ (.slice (some ad114) t111.length co19 : Value).ownBlock ∧ k_ ≠ gb118) (.slice A2 l2.length c2) l2) := ⟨vz (Kd.aW_ (Kd.V_far (p := ⟨gb118, 2, none⟩) (Kd.V_far (p := ⟨gb118, 1, none⟩) (Kd.V_far (p := ⟨gb118, 0, none⟩) (Kd.aW_ HO_2.out (fun k_ hk => (⟨hk, hk.2⟩ : _ ∧ k_ ≠ gb118))) (fun _ hk => hk.2) (.string t115)) (fun _ hk => hk.2) (.int .i64 t116)) (fun _ hk => hk.2) (.int .i64 t117)) (fun _ hk => ⟨hk.1.1.1, ⟨hk.1.1.2.1, ⟨hk.1.1.2.2, hk.1.2⟩⟩⟩))⟩
       have n2_ : Aside0 (Kd.R k63 63 (((w27.setCell ⟨gb118, 0, none⟩ (.string t115)).setCell ⟨gb118, 1, none⟩ (.int .i64 t116)).setCell ⟨gb118, 2, none⟩ (.int .i64 t117)) w.heap.size (fun k_ => (w.heap.size ≤ k_)) u10 x10_3) := ⟨rz (Kd.aK_ (Kd.R_far (p := ⟨gb118, 2, none⟩) (Kd.R_far (p := ⟨gb118, 1, none⟩) (Kd.R_far (p := ⟨gb118, 0, none⟩) (Kd.bp_ HO_10.out BK118.out (by decide)) (fun _ hk => hk.2) (.string t115)) (fun _ hk => hk.2) (.int .i64 t116)) (fun _ hk => hk.2) (.int .i64 t117)) (fun _ hk => hk.1))⟩
       have n3_ : Aside0 (Kd.R Kd.string 9 (((w27.setCell ⟨gb118, 0, none⟩ (.string t115)).setCell ⟨gb118, 1, none⟩ (.int .i64 t116)).setCell ⟨gb118, 2, none⟩ (.int .i64 t117)) w.heap.size (fun k_ => (w.heap.size ≤ k_)) (.slice (some ad114) t111.length co19) t111) := ⟨rz (Kd.aK_ (Kd.R_far (p := ⟨gb118, 2, none⟩) (Kd.R_far (p := ⟨gb118, 1, none⟩) (Kd.R_far (p := ⟨gb118, 0, none⟩) (Kd.bp_ HO_35.out BK118.out (by decide)) (fun _ hk => hk.2) (.string t115)) (fun _ hk => hk.2) (.int .i64 t116)) (fun _ hk => hk.2) (.int .i64 t117)) (fun _ hk => hk.1))⟩
       have n4_ : Aside0 ((((w27.setCell ⟨gb118, 0, none⟩ (.string t115)).setCell ⟨gb118, 1, none⟩ (.int .i64 t116)).setCell ⟨gb118, 2, none⟩ (.int .i64 t117)).heap[gb118]? = some (.cells #[.string t115, .int .i64 t116, .int .i64 t117] 61 (0, 0))) := ⟨by (with_reducible repeat (first | refine ai_ ?_ _ | refine aj_ ?_ | refine ah_ ?_ _)); refine aB_ (cs := #[.string t115, .int .i64 t116, .int .i64 0]) ?_ 2 _ rfl; (with_reducible repeat (first | refine ai_ ?_ _ | refine aj_ ?_ | refine ah_ ?_ _)); refine aB_ (cs := #[.string t115, .int .i64 0, .int .i64 0]) ?_ 1 _ rfl; (with_reducible repeat (first | refine ai_ ?_ _ | refine aj_ ?_ | refine ah_ ?_ _)); refine aB_ (cs := #[.string (⟨#[]⟩ : ByteArray), .int .i64 0, .int .i64 0]) ?_ 0 _ rfl; (with_reducible repeat (first | refine ai_ ?_ _ | refine aj_ ?_ | refine ah_ ?_ _)); exact BK118.out⟩
       have n5_ : Aside0 (Below w.heap.size w (((w27.setCell ⟨gb118, 0, none⟩ (.string t115)).setCell ⟨gb118, 1, none⟩ (.int .i64 t116)).setCell ⟨gb118, 2, none⟩ (.int .i64 t117))) := ⟨by repeat (first | (with_reducible first | exact HB.out | apply bA_ | apply bN_ | apply bD_ | refine ac_ ?_ GE118.out) | exact HB.out)⟩
       (try clear HO_1)
       (try clear HO_2)
       (try clear HO_10)
       (try clear HO_35)
       (try clear BK118)
       (try clear HB)
       generalize (((w27.setCell ⟨gb118, 0, none⟩ (.string t115)).setCell ⟨gb118, 1, none⟩ (.int .i64 t116)).setCell ⟨gb118, 2, none⟩ (.int .i64 t117)) = w29 at n0_ n1_ n2_ n3_ n4_ n5_ ⊢
       have HO_1 := n0_
       have HO_2 := n1_
       have HO_10 := n2_
       have HO_35 := n3_
       have BK118 := n4_
       have HB := n5_
       clear n0_ n1_ n2_ n3_ n4_ n5_
       have n0_ := Aside0.mk (Kd.V_drew HO_1.out)
       have n1_ := Aside0.mk (Kd.V_drew HO_2.out)
       have n2_ := Aside0.mk (Kd.R_drew HO_10.out)
       have n3_ := Aside0.mk (Kd.R_drew HO_35.out)
       have n4_ := Aside0.mk (aj_ BK118.out)
       have n5_ := Aside0.mk (bD_ HB.out)
       clear HO_1
       clear HO_2
       clear HO_10
       clear HO_35
       clear BK118
       clear HB
       have HO_1 := n0_
       have HO_2 := n1_
       have HO_10 := n2_
       have HO_35 := n3_
       have BK118 := n4_
       have HB := n5_
       clear n0_ n1_ n2_ n3_ n4_ n5_
       refine start_ (n := 5) (S := fun w' => w'.cell? ⟨gb118, 0, none⟩ = some (.string t115) ∧ w'.cell? ⟨gb118, 1, none⟩ = some (.int .i64 t116) ∧ w'.cell? ⟨gb118, 2, none⟩ = some (.int .i64 t117)) (ds := []) #[f_,f_,f_,f_,f_] (by kernel_rfl) rfl rfl ⟨(ab_ BK118.out 0).trans rfl, (ab_ BK118.out 1).trans rfl, (ab_ BK118.out 2).trans rfl⟩ (fun hHeld => ?_)
       generalize w29.drew = w30 at HO_1 HO_2 HO_10 HO_35 BK118 HB hHeld ⊢
       refine pure_ (i := 1) (N := some 45) (v := ?_) (a' := ?_) #[f_,t_,f_,f_,f_] rfl rfl (by kernel_rfl) (fun _ _ _ h => h) (Or.inl ⟨by rfl, ?_⟩) ?_ ?_
       rotate_left
       ·intro w'
        go_simp
        with_reducible rfl
       rotate_left
       ·simp only [Act.put, lsa_, ls0_, ls1_, i64_w, i32_w]
        rfl
       refine pure_ (i := 2) (N := some 46) (v := ?_) (a' := ?_) #[f_,t_,t_,f_,f_] rfl rfl (by kernel_rfl) (fun _ _ _ h => h) (Or.inl ⟨by rfl, ?_⟩) ?_ ?_
       rotate_left
       ·intro w'
        go_simp
        with_reducible rfl
       rotate_left
       ·simp only [Act.put, lsa_, ls0_, ls1_, i64_w, i32_w]
        rfl
       refine take_ (i := 0) (N := some 44) (v := ?_) (a' := ?_) #[t_,t_,t_,f_,f_] rfl rfl (by kernel_rfl) (fun _ _ _ h => h) (Or.inl ⟨by rfl, ?_⟩) hHeld ?_ ?_
       rotate_left
       ·rintro w' ⟨s0, s1, s2⟩
        go_simp
        with_reducible rfl
       rotate_left
       ·simp only [Act.put, lsa_, ls0_, ls1_, i64_w, i32_w]
        rfl
       refine one_ (i := 3) (N := some 47) #[t_,t_,t_,t_,f_] rfl rfl (by kernel_rfl) (by decide) (fun K hK => ?_)
       (first | refine goes_ Try.func41 (by kernel_rfl) rfl #[.slice A0 l0.length c0, .string (rdOf ByteArray.empty t111 x37_3)] (by rfl) rfl rfl (by first | rfl | (simp only [List.map_toArray, List.map_cons, List.map_nil]; first | done | rfl)) ?_ | refine RPW.goesV_ Try.func41 (by kernel_rfl) rfl #[.slice A0 l0.length c0, .string (rdOf ByteArray.empty t111 x37_3)] (by rfl) rfl rfl rfl (by first | rfl | (simp only [List.map_toArray, List.map_cons, List.map_nil]; first | done | rfl)) ?_ | refine RPW.goesC_ Try.func41 (by kernel_rfl) rfl #[.slice A0 l0.length c0, .string (rdOf ByteArray.empty t111 x37_3)] (by rfl) rfl rfl rfl (by first | rfl | (simp only [List.map_toArray, List.map_cons, List.map_nil]; first | done | rfl)) ?_)
       with_reducible refine (bC_.calls k3 _ _ l0 (rdOf ByteArray.empty t111 x37_3) t119 t120 t121 _ ?side1 ?side2 A24.out).mono ?_
       (case side1 => exact cz (Kd.bE_ HR0.out HB.out))
       (case side2 => exact HC0.out)
       rintro e w31 ⟨rfl, hb⟩
       refine ⟨_, rfl, ?_⟩
       have n0_ := Aside0.mk (Kd.aS_ (vz HO_1.out) hb)
       have n1_ := Aside0.mk (Kd.aS_ (vz HO_2.out) hb)
       have n2_ := Aside0.mk (Kd.aH_ (rz HO_10.out) hb)
       have n3_ := Aside0.mk (Kd.aH_ (rz HO_35.out) hb)
       have n4_ := Aside0.mk (aG_ (g := gb118) (o := .cells #[.string t115, .int .i64 t116, .int .i64 t117] 61 (0, 0)) (kz BK118.out) hb)
       have n5_ := Aside0.mk (ag_ (by repeat (first | (with_reducible first | exact HB.out | apply bA_ | apply bN_ | apply bD_ | refine ac_ ?_ GE118.out) | exact HB.out)) hb)
       clear HO_1
       clear HO_2
       clear HO_10
       clear HO_35
       clear BK118
       clear HB
       have HO_1 := n0_
       have HO_2 := n1_
       have HO_10 := n2_
       have HO_35 := n3_
       have BK118 := n4_
       have HB := n5_
       clear n0_ n1_ n2_ n3_ n4_ n5_
       (try clear hb)
       refine hK.out _ _ ⟨(ab_ BK118.out 0).trans rfl, (ab_ BK118.out 1).trans rfl, (ab_ BK118.out 2).trans rfl⟩ (fun hHeld => ?_)
       clear hK K
       refine norm_ (a' := ?_) ?_ ?_
       rotate_left
       ·show Act.put _ (some 47) _ = _
        simp only [Act.put, lsa_, ls0_, ls1_, i64_w, i32_w]
        rfl
       refine pure_ (i := 4) (N := some 48) (v := ?_) (a' := ?_) #[t_,t_,t_,t_,t_] rfl rfl (by kernel_rfl) (fun _ _ _ h => h) (Or.inl ⟨by rfl, ?_⟩) ?_ ?_
       rotate_left
       ·intro w'
        go_simp
        with_reducible rfl
       rotate_left
       ·simp only [Act.put, lsa_, ls0_, ls1_, i64_w, i32_w]
        rfl
       refine done_ (by kernel_rfl) ?_
       go_upto_if 48 with (fail)
       have H := HC25.out
       clear HC25
       by_cases c32 : (t115.toList == t119.toList && (t116 == t120 && (t117 == t121))) = true
       rotate_left
       ·rw [if_neg c32] at H
        have c32b0 : (t115.toList == t119.toList && (t116 == t120 && (t117 == t121))) = false := by simpa using c32
        (try (have c32b1 : decide (t115.toList = t119.toList && (t116 == t120 && (t117 == t121))) = false := by simpa using c32))
        (try (have c32b2 : (t115.toList == t119.toList && (t116 == t120 && (t117 == t121))) = false := by simpa using c32))
        (try (have c32b3 : ¬ (t115.toList = t119.toList && (t116 == t120 && (t117 == t121))) := by simpa using c32))
        clear c32
        (first | rw [c32b0] | (simp only [i64_w, i32_w]; rw [c32b0]) | (simp only [c32b1, Bool.not_true, Bool.not_false]) | (simp only [c32b0, Bool.not_true, Bool.not_false]) | skip)
        by_cases c41 : (!(t115.toList == ([] : List UInt8)) || (!(t116 == 0) || (!(t117 == 0)))) = true
        rotate_left
        ·rw [if_neg c41] at H
         have c41b0 : (!(t115.toList == ([] : List UInt8)) || (!(t116 == 0) || (!(t117 == 0)))) = false := by simpa using c41
         (try (have c41b8 := c41b0; simp only [List.beq_nil_eq] at c41b8))
         clear c41
         have H' := Aside0.mk H
         clear H
         have hcz45_0 : w31.cell? ⟨gb118, 0, none⟩ = some (.string t115) := (ab_ BK118.out 0).trans rfl
         have hcz45_1 : w31.cell? ⟨gb118, 1, none⟩ = some (.int .i64 t116) := (ab_ BK118.out 1).trans rfl
         have hcz45_2 : w31.cell? ⟨gb118, 2, none⟩ = some (.int .i64 t117) := (ab_ BK118.out 2).trans rfl
         have hfz45_0 := aa_ BK118.out 0
         have hfz45_1 := aa_ BK118.out 1
         have hfz45_2 := aa_ BK118.out 2
         go_wp2
         go_roundg k3
         case measure => have := HJ4.out; have := HJ8.out; have := HK3.out; omega
         case rel => exact ⟨(x10_3), (wrap64 (x37_3 + 1)), (by first | rfl | (simp; done) | (simp [*]; done)), H', ⟨by have := HJ4.out; have := HJ8.out; have := HK3.out; omega⟩, ⟨vz (Kd.aW_ HO_1.out (fun _ hk => ⟨hk.1, ⟨hk.2.1, hk.2.2.1⟩⟩))⟩, ⟨vz (Kd.aW_ HO_2.out (fun _ hk => ⟨hk.1, ⟨hk.2.1, hk.2.2.1⟩⟩))⟩, ⟨rz HO_10.out⟩, ⟨rz HO_35.out⟩, ⟨by repeat (first | (with_reducible first | exact HB.out | apply bA_ | apply bN_ | apply bD_ | refine ac_ ?_ GE118.out) | exact HB.out)⟩⟩
        rw [if_pos c41] at H
        have c41b0 : (!(t115.toList == ([] : List UInt8)) || (!(t116 == 0) || (!(t117 == 0)))) = true := c41
        (try (have c41b8 := c41b0; simp only [List.beq_nil_eq] at c41b8))
        clear c41
        by_cases c42 : x10_3.length < 2932031007402
        rotate_left
        ·rw [if_neg c42] at H
         exact absurd H (by simp)
        rw [if_pos c42] at H
        have LMc42 := Aside0.mk c42
        clear c42
        obtain ⟨y128, hy128⟩ : ∃ y_ : List (S63), y_ = (x10_3 ++ [(⟨rdOf ByteArray.empty t111 x37_3, (⟨t115, t116, t117⟩ : S61)⟩ : S63)]) := ⟨_, rfl⟩
        replace H : (aq_.l0 k3 l0 l1 l2 y128 t111 (t111.length : Int) (wrap64 (x37_3 + 1))) = some (r1, r2) := by first | (rw [hy128]; with_reducible exact H) | (have H2_ := (Option.bind_some _ _).symm.trans H; rw [hy128]; with_reducible exact H2_) | (have H2_ := (Option.bind_some _ _).symm.trans H; with_reducible exact H2_) | with_reducible exact H | (rw [hy128]; exact H) | exact H
        have Ny128 := Aside0.mk hy128
        clear hy128
        have H' := Aside0.mk H
        clear H
        have hcz43_0 : w31.cell? ⟨gb118, 0, none⟩ = some (.string t115) := (ab_ BK118.out 0).trans rfl
        have hcz43_1 : w31.cell? ⟨gb118, 1, none⟩ = some (.int .i64 t116) := (ab_ BK118.out 1).trans rfl
        have hcz43_2 : w31.cell? ⟨gb118, 2, none⟩ = some (.int .i64 t117) := (ab_ BK118.out 2).trans rfl
        have hfz43_0 := aa_ BK118.out 0
        have hfz43_1 := aa_ BK118.out 1
        have hfz43_2 := aa_ BK118.out 2
        go_wp2_with (first | ((with_reducible refine bn_ (b := .append) (xs := #[.tmp 55, .tmp 59]) rfl ?_); (try (refine gate_guard (by rfl) ?_; dsimp only)); at_builtin; refine Kd.ck_ k63 (w0 := w) w.heap.size rfl (.tmp 55) (.tmp 59) 27 63 (.agg #[(.string ⟨#[]⟩), (.string ⟨#[]⟩), (.int .i64 0), (.int .i64 0)]) 48 rfl Try.underlying27 dk_ rfl (by decide) (by omega) u10 x10_3 (⟨rdOf ByteArray.empty t111 x37_3, (⟨t115, t116, t117⟩ : S61)⟩ : S63) [.string (rdOf ByteArray.empty t111 x37_3), .string t115, .int .i64 t116, .int .i64 t117] (fun k_ => (w.heap.size ≤ k_)) (fun _ => False) rfl rfl ?aP (fun _ hk => hk.elim) ?aF ?aO ?aB ?aS ?aL ?_; (case aP => exact cE_ _ _ _ (⟨rdOf ByteArray.empty t111 x37_3, (⟨t115, t116, t117⟩ : S61)⟩ : S63)); (case aB => exact (by repeat (first | (with_reducible first | exact HB.out | apply bA_ | apply bN_ | apply bD_ | refine ac_ ?_ GE118.out) | exact HB.out))); (case aF => exact (fun k_ hk => (Nat.le_trans (ae_ (by repeat (first | (with_reducible first | exact HB.out | apply bA_ | apply bN_ | apply bD_ | refine ac_ ?_ GE118.out) | exact HB.out))) hk))); (case aO => exact (rz HO_10.out)); (case aS => exact (ae_ (by repeat (first | (with_reducible first | exact HB.out | apply bA_ | apply bN_ | apply bD_ | refine ac_ ?_ GE118.out) | exact HB.out)))); (case aL => have := LMc42.out; omega); intro v129 w44 ho hb hg hat; rw [← Ny128.out] at ho; replace HO_1 := Aside0.mk (Kd.dp_ (ok := (fun k_ => ((P1_ k_ ∨ P2_ k_) ∨ w.heap.size ≤ k_) ∧ some k_ ≠ (.slice (some ad114) t111.length co19 : Value).ownBlock ∧ k_ ≠ gb118)) (vz (Kd.aW_ HO_1.out (fun _ hk => ⟨⟨hk.1, ⟨hk.2.2.1, hk.2.2.2⟩⟩, hk.2.1⟩))) hg hat); replace HO_2 := Aside0.mk (Kd.dp_ (ok := (fun k_ => ((P1_ k_ ∨ P2_ k_) ∨ w.heap.size ≤ k_) ∧ some k_ ≠ (.slice (some ad114) t111.length co19 : Value).ownBlock ∧ k_ ≠ gb118)) (vz (Kd.aW_ HO_2.out (fun _ hk => ⟨⟨hk.1, ⟨hk.2.2.1, hk.2.2.2⟩⟩, hk.2.1⟩))) hg hat); replace HO_35 := Aside0.mk (Kd.R_over' (rz HO_35.out) (Kd.R_typed (rz HO_10.out)) (by decide) hg); replace BK118 := Aside0.mk (bW_ (g := gb118) (o := .cells #[.string t115, .int .i64 t116, .int .i64 t117] 61 (0, 0)) (kz BK118.out) hg (Kd.R_ne HO_10.out BK118.out (by decide))); replace HB := Aside0.mk (hb); have HO130 := Aside0.mk (ho); clear HO_10; clear ho hb hg hat))
        go_roundg k3
        case measure => have := HJ4.out; have := HJ8.out; have := HK3.out; omega
        case rel => exact ⟨(y128), (wrap64 (x37_3 + 1)), (by first | rfl | (simp; done) | (simp [*]; done)), H', ⟨by have := HJ4.out; have := HJ8.out; have := HK3.out; omega⟩, ⟨vz (Kd.aW_ HO_1.out (fun _ hk => ⟨hk.1.1, ⟨hk.2, hk.1.2.1⟩⟩))⟩, ⟨vz (Kd.aW_ HO_2.out (fun _ hk => ⟨hk.1.1, ⟨hk.2, hk.1.2.1⟩⟩))⟩, ⟨rz HO130.out⟩, ⟨rz HO_35.out⟩, ⟨by repeat (first | (with_reducible first | exact HB.out | apply bA_ | apply bN_ | apply bD_ | refine ac_ ?_ GE118.out) | exact HB.out)⟩⟩
       rw [if_pos c32] at H
       have c32b0 : (t115.toList == t119.toList && (t116 == t120 && (t117 == t121))) = true := c32
       (try (have c32b1 : decide (t115.toList = t119.toList && (t116 == t120 && (t117 == t121))) = true := by simpa using c32))
       (try (have c32b2 : (t115.toList == t119.toList && (t116 == t120 && (t117 == t121))) = true := by simpa using c32))
       clear c32
       (first | rw [c32b0] | (simp only [i64_w, i32_w]; rw [c32b0]) | (simp only [c32b1, Bool.not_true, Bool.not_false]) | (simp only [c32b0, Bool.not_true, Bool.not_false]) | skip)
       replace H := Option.bind_eq_some_iff.mp H
       obtain ⟨⟨t122, t123, t124⟩, A330, H⟩ := H
       (try dsimp only at H)
       have A33 := Aside0.mk A330
       clear A330
       have HC34 := Aside0.mk H
       clear H
       go_upto_if 54 with (first | ((with_reducible refine am_ (f := 41) rfl ?_); refine aX_ (some 51) rfl rfl Try.func41 (by kernel_rfl) rfl #[.slice A2 l2.length c2, .string (rdOf ByteArray.empty t111 x37_3)] rfl (by first | rfl | (simp only [List.map_toArray, List.map_cons, List.map_nil]; first | done | rfl)) ?_; (with_reducible refine (bC_.calls k3 _ _ l2 (rdOf ByteArray.empty t111 x37_3) t122 t123 t124 _ ?side1 ?side2 A33.out).mono ?_); (case side1 => exact cz (Kd.bb_ HO_2.out).2.2); (case side2 => exact (Kd.bb_ HO_2.out).2.1); rintro e w35 ⟨rfl, hb⟩; refine ⟨_, rfl, ?_⟩; replace HO_1 := Aside0.mk (Kd.aS_ (vz HO_1.out) hb); replace HO_2 := Aside0.mk (Kd.aS_ (vz HO_2.out) hb); replace HO_10 := Aside0.mk (Kd.aH_ (rz HO_10.out) hb); replace HO_35 := Aside0.mk (Kd.aH_ (rz HO_35.out) hb); replace BK118 := Aside0.mk (aG_ (g := gb118) (o := .cells #[.string t115, .int .i64 t116, .int .i64 t117] 61 (0, 0)) (kz BK118.out) hb); replace HB := Aside0.mk (ag_ (by repeat (first | (with_reducible first | exact HB.out | apply bA_ | apply bN_ | apply bD_ | refine ac_ ?_ GE118.out) | exact HB.out)) hb); (try clear hb); have hcz36_0 : w35.cell? ⟨gb118, 0, none⟩ = some (.string t115) := (ab_ BK118.out 0).trans rfl; have hcz36_1 : w35.cell? ⟨gb118, 1, none⟩ = some (.int .i64 t116) := (ab_ BK118.out 1).trans rfl; have hcz36_2 : w35.cell? ⟨gb118, 2, none⟩ = some (.int .i64 t117) := (ab_ BK118.out 2).trans rfl; have hfz36_0 := aa_ BK118.out 0; have hfz36_1 := aa_ BK118.out 1; have hfz36_2 := aa_ BK118.out 2))
       (try simp only [Act.put, lsa_, ls0_, ls1_])
       have H := HC34.out
       clear HC34
       by_cases c37 : (!(t122.toList == ([] : List UInt8)) || (!(t123 == 0) || (!(t124 == 0)))) = true
       rotate_left
       ·rw [if_neg c37] at H
        have c37b0 : (!(t122.toList == ([] : List UInt8)) || (!(t123 == 0) || (!(t124 == 0)))) = false := by simpa using c37
        (try (have c37b8 := c37b0; simp only [List.beq_nil_eq] at c37b8))
        clear c37
        (first | rw [c37b0] | (simp only [i64_w, i32_w]; rw [c37b0]) | (simp only [c37b1, Bool.not_true, Bool.not_false]) | (simp only [c37b0, Bool.not_true, Bool.not_false]) | rw [c37b8] | (simp only [c37b8, Bool.not_true, Bool.not_false]) | skip)
        have H' := Aside0.mk H
        clear H
        go_wp2
        go_roundg k3
        case measure => have := HJ4.out; have := HJ8.out; have := HK3.out; omega
        case rel => exact ⟨(x10_3), (wrap64 (x37_3 + 1)), (by first | rfl | (simp; done) | (simp [*]; done)), H', ⟨by have := HJ4.out; have := HJ8.out; have := HK3.out; omega⟩, ⟨vz (Kd.aW_ (Kd.V_far (p := ⟨gb118, 2, none⟩) (Kd.V_far (p := ⟨gb118, 1, none⟩) (Kd.V_far (p := ⟨gb118, 0, none⟩) (Kd.aW_ HO_1.out (fun k_ hk => (⟨hk, hk.2.2.2⟩ : _ ∧ k_ ≠ gb118))) (fun _ hk => hk.2) (.string t122)) (fun _ hk => hk.2) (.int .i64 t123)) (fun _ hk => hk.2) (.int .i64 t124)) (fun _ hk => ⟨hk.1.1, ⟨hk.1.2.1, hk.1.2.2.1⟩⟩))⟩, ⟨vz (Kd.aW_ (Kd.V_far (p := ⟨gb118, 2, none⟩) (Kd.V_far (p := ⟨gb118, 1, none⟩) (Kd.V_far (p := ⟨gb118, 0, none⟩) (Kd.aW_ HO_2.out (fun k_ hk => (⟨hk, hk.2.2.2⟩ : _ ∧ k_ ≠ gb118))) (fun _ hk => hk.2) (.string t122)) (fun _ hk => hk.2) (.int .i64 t123)) (fun _ hk => hk.2) (.int .i64 t124)) (fun _ hk => ⟨hk.1.1, ⟨hk.1.2.1, hk.1.2.2.1⟩⟩))⟩, ⟨rz (Kd.aK_ (Kd.R_far (p := ⟨gb118, 2, none⟩) (Kd.R_far (p := ⟨gb118, 1, none⟩) (Kd.R_far (p := ⟨gb118, 0, none⟩) (Kd.bp_ HO_10.out BK118.out (by decide)) (fun _ hk => hk.2) (.string t122)) (fun _ hk => hk.2) (.int .i64 t123)) (fun _ hk => hk.2) (.int .i64 t124)) (fun _ hk => hk.1))⟩, ⟨rz (Kd.aK_ (Kd.R_far (p := ⟨gb118, 2, none⟩) (Kd.R_far (p := ⟨gb118, 1, none⟩) (Kd.R_far (p := ⟨gb118, 0, none⟩) (Kd.bp_ HO_35.out BK118.out (by decide)) (fun _ hk => hk.2) (.string t122)) (fun _ hk => hk.2) (.int .i64 t123)) (fun _ hk => hk.2) (.int .i64 t124)) (fun _ hk => hk.1))⟩, ⟨by repeat (first | (with_reducible first | exact HB.out | apply bA_ | apply bN_ | apply bD_ | refine ac_ ?_ GE118.out) | exact HB.out)⟩⟩
       rw [if_pos c37] at H
       have c37b0 : (!(t122.toList == ([] : List UInt8)) || (!(t123 == 0) || (!(t124 == 0)))) = true := c37
       (try (have c37b8 := c37b0; simp only [List.beq_nil_eq] at c37b8))
       clear c37
       (first | rw [c37b0] | (simp only [i64_w, i32_w]; rw [c37b0]) | (simp only [c37b1, Bool.not_true, Bool.not_false]) | (simp only [c37b0, Bool.not_true, Bool.not_false]) | rw [c37b8] | (simp only [c37b8, Bool.not_true, Bool.not_false]) | skip)
       by_cases c38 : x10_3.length < 2932031007402
       rotate_left
       ·rw [if_neg c38] at H
        exact absurd H (by simp)
       rw [if_pos c38] at H
       have LMc38 := Aside0.mk c38
       clear c38
       obtain ⟨y125, hy125⟩ : ∃ y_ : List (S63), y_ = (x10_3 ++ [(⟨rdOf ByteArray.empty t111 x37_3, (⟨t122, t123, t124⟩ : S61)⟩ : S63)]) := ⟨_, rfl⟩
       replace H : (aq_.l0 k3 l0 l1 l2 y125 t111 (t111.length : Int) (wrap64 (x37_3 + 1))) = some (r1, r2) := by first | (rw [hy125]; with_reducible exact H) | (have H2_ := (Option.bind_some _ _).symm.trans H; rw [hy125]; with_reducible exact H2_) | (have H2_ := (Option.bind_some _ _).symm.trans H; with_reducible exact H2_) | with_reducible exact H | (rw [hy125]; exact H) | exact H
       have Ny125 := Aside0.mk hy125
       clear hy125
       have H' := Aside0.mk H
       clear H
       have hcz39_0 : w35.cell? ⟨gb118, 0, none⟩ = some (.string t115) := (ab_ BK118.out 0).trans rfl
       have hcz39_1 : w35.cell? ⟨gb118, 1, none⟩ = some (.int .i64 t116) := (ab_ BK118.out 1).trans rfl
       have hcz39_2 : w35.cell? ⟨gb118, 2, none⟩ = some (.int .i64 t117) := (ab_ BK118.out 2).trans rfl
       have hfz39_0 := aa_ BK118.out 0
       have hfz39_1 := aa_ BK118.out 1
       have hfz39_2 := aa_ BK118.out 2
       go_wp2_with (first | ((with_reducible refine bn_ (b := .append) (xs := #[.tmp 55, .tmp 59]) rfl ?_); (try (refine gate_guard (by rfl) ?_; dsimp only)); at_builtin; refine Kd.ck_ k63 (w0 := w) w.heap.size rfl (.tmp 55) (.tmp 59) 27 63 (.agg #[(.string ⟨#[]⟩), (.string ⟨#[]⟩), (.int .i64 0), (.int .i64 0)]) 48 rfl Try.underlying27 dk_ rfl (by decide) (by omega) u10 x10_3 (⟨rdOf ByteArray.empty t111 x37_3, (⟨t122, t123, t124⟩ : S61)⟩ : S63) [.string (rdOf ByteArray.empty t111 x37_3), .string t122, .int .i64 t123, .int .i64 t124] (fun k_ => (w.heap.size ≤ k_)) (fun _ => False) rfl (by first | (go_simp; done) | (go_simp; rfl)) ?aP (fun _ hk => hk.elim) ?aF ?aO ?aB ?aS ?aL ?_; (case aP => exact cE_ _ _ _ (⟨rdOf ByteArray.empty t111 x37_3, (⟨t122, t123, t124⟩ : S61)⟩ : S63)); (case aB => exact (by repeat (first | (with_reducible first | exact HB.out | apply bA_ | apply bN_ | apply bD_ | refine ac_ ?_ GE118.out) | exact HB.out))); (case aF => exact (fun k_ hk => (Nat.le_trans (ae_ (by repeat (first | (with_reducible first | exact HB.out | apply bA_ | apply bN_ | apply bD_ | refine ac_ ?_ GE118.out) | exact HB.out))) hk))); (case aO => exact (rz (Kd.aK_ (Kd.R_far (p := ⟨gb118, 2, none⟩) (Kd.R_far (p := ⟨gb118, 1, none⟩) (Kd.R_far (p := ⟨gb118, 0, none⟩) (Kd.bp_ HO_10.out BK118.out (by decide)) (fun _ hk => hk.2) (.string t122)) (fun _ hk => hk.2) (.int .i64 t123)) (fun _ hk => hk.2) (.int .i64 t124)) (fun _ hk => hk.1)))); (case aS => exact (ae_ (by repeat (first | (with_reducible first | exact HB.out | apply bA_ | apply bN_ | apply bD_ | refine ac_ ?_ GE118.out) | exact HB.out)))); (case aL => have := LMc38.out; omega); intro v126 w40 ho hb hg hat; rw [← Ny125.out] at ho; replace HO_1 := Aside0.mk (Kd.dp_ (ok := (fun k_ => ((P1_ k_ ∨ P2_ k_) ∨ w.heap.size ≤ k_) ∧ some k_ ≠ (.slice (some ad114) t111.length co19 : Value).ownBlock ∧ k_ ≠ gb118)) (vz (Kd.aW_ (Kd.V_far (p := ⟨gb118, 2, none⟩) (Kd.V_far (p := ⟨gb118, 1, none⟩) (Kd.V_far (p := ⟨gb118, 0, none⟩) (Kd.aW_ HO_1.out (fun k_ hk => (⟨hk, hk.2.2.2⟩ : _ ∧ k_ ≠ gb118))) (fun _ hk => hk.2) (.string t122)) (fun _ hk => hk.2) (.int .i64 t123)) (fun _ hk => hk.2) (.int .i64 t124)) (fun _ hk => ⟨⟨hk.1.1, ⟨hk.1.2.2.1, hk.1.2.2.2⟩⟩, hk.1.2.1⟩))) hg hat); replace HO_2 := Aside0.mk (Kd.dp_ (ok := (fun k_ => ((P1_ k_ ∨ P2_ k_) ∨ w.heap.size ≤ k_) ∧ some k_ ≠ (.slice (some ad114) t111.length co19 : Value).ownBlock ∧ k_ ≠ gb118)) (vz (Kd.aW_ (Kd.V_far (p := ⟨gb118, 2, none⟩) (Kd.V_far (p := ⟨gb118, 1, none⟩) (Kd.V_far (p := ⟨gb118, 0, none⟩) (Kd.aW_ HO_2.out (fun k_ hk => (⟨hk, hk.2.2.2⟩ : _ ∧ k_ ≠ gb118))) (fun _ hk => hk.2) (.string t122)) (fun _ hk => hk.2) (.int .i64 t123)) (fun _ hk => hk.2) (.int .i64 t124)) (fun _ hk => ⟨⟨hk.1.1, ⟨hk.1.2.2.1, hk.1.2.2.2⟩⟩, hk.1.2.1⟩))) hg hat); replace HO_35 := Aside0.mk (Kd.R_over' (rz (Kd.aK_ (Kd.R_far (p := ⟨gb118, 2, none⟩) (Kd.R_far (p := ⟨gb118, 1, none⟩) (Kd.R_far (p := ⟨gb118, 0, none⟩) (Kd.bp_ HO_35.out BK118.out (by decide)) (fun _ hk => hk.2) (.string t122)) (fun _ hk => hk.2) (.int .i64 t123)) (fun _ hk => hk.2) (.int .i64 t124)) (fun _ h_ => h_.1))) (Kd.R_typed (rz (Kd.aK_ (Kd.R_far (p := ⟨gb118, 2, none⟩) (Kd.R_far (p := ⟨gb118, 1, none⟩) (Kd.R_far (p := ⟨gb118, 0, none⟩) (Kd.bp_ HO_10.out BK118.out (by decide)) (fun _ hk => hk.2) (.string t122)) (fun _ hk => hk.2) (.int .i64 t123)) (fun _ hk => hk.2) (.int .i64 t124)) (fun _ h_ => h_.1)))) (by decide) hg); replace BK118 := Aside0.mk (bW_ (g := gb118) (o := .cells #[.string t122, .int .i64 t123, .int .i64 t124] 61 (0, 0)) (by (with_reducible repeat (first | refine ai_ ?_ _ | refine aj_ ?_ | refine ah_ ?_ _)); refine aB_ (cs := #[.string t122, .int .i64 t123, .int .i64 t117]) ?_ 2 _ rfl; (with_reducible repeat (first | refine ai_ ?_ _ | refine aj_ ?_ | refine ah_ ?_ _)); refine aB_ (cs := #[.string t122, .int .i64 t116, .int .i64 t117]) ?_ 1 _ rfl; (with_reducible repeat (first | refine ai_ ?_ _ | refine aj_ ?_ | refine ah_ ?_ _)); refine aB_ (cs := #[.string t115, .int .i64 t116, .int .i64 t117]) ?_ 0 _ rfl; (with_reducible repeat (first | refine ai_ ?_ _ | refine aj_ ?_ | refine ah_ ?_ _)); exact BK118.out) hg (Kd.R_ne HO_10.out BK118.out (by decide))); replace HB := Aside0.mk (hb); have HO127 := Aside0.mk (ho); clear HO_10; clear ho hb hg hat))
       go_roundg k3
       case measure => have := HJ4.out; have := HJ8.out; have := HK3.out; omega
       case rel => exact ⟨(y125), (wrap64 (x37_3 + 1)), (by first | rfl | (simp; done) | (simp [*]; done)), H', ⟨by have := HJ4.out; have := HJ8.out; have := HK3.out; omega⟩, ⟨vz (Kd.aW_ HO_1.out (fun _ hk => ⟨hk.1.1, ⟨hk.2, hk.1.2.1⟩⟩))⟩, ⟨vz (Kd.aW_ HO_2.out (fun _ hk => ⟨hk.1.1, ⟨hk.2, hk.1.2.1⟩⟩))⟩, ⟨rz HO127.out⟩, ⟨rz HO_35.out⟩, ⟨by repeat (first | (with_reducible first | exact HB.out | apply bA_ | apply bN_ | apply bD_ | refine ac_ ?_ GE118.out) | exact HB.out)⟩⟩
end Go.Proofs.Ytiheginanghhjaa.Q
namespace Go.Proofs.Ytiheginanghhjaa.Q
open Go.RowKit Go.Proofs.YtiheginanghhjaaW.PrintWords Go.Proofs.YtiheginanghhjaaW.PrintLast Go.Proofs.YtiheginanghhjaaW.PrintMore
attribute [local go_sem] aN_ aL_ bi_ bh_ aA_ az_ aO_ aM_
def br_.l0 : Nat → ByteArray → Int → Option (Bool)
 | 0, _, _ => none
 | k + 1, x0, x3 => if x3 < (x0.size : Int) then (if 0 ≤ x3 then (if (bt x0 x3) < 32 then (some false) else (if (bt x0 x3) > 126 then (some false) else (br_.l0 k x0 (wrap64 (x3 + 1))))) else (none)) else (some (decide ((x0.size : Int) ≤ 20)))
def br_.f (k : Nat) (a0 : ByteArray) : Option (Bool) := br_.l0 k a0 0
set_option maxHeartbeats 8000000 in
set_option maxRecDepth 100000 in
theorem br_.calls (k : Nat) (a0 : ByteArray) (r : Bool) (w : World) (h : br_.f k a0 = some r) :
  Calls Try.prog 54 #[.string a0] w fun e w' => e = .returned (.bool r) ∧ av_ w w' := by
 have H : (br_.l0 k a0 0) = some r := h
 clear h
 have H' := Aside0.mk H
 clear H
 go_enter Try.func54, Try.ntmps54
 go_wp2
 (try simp only [Act.put, lsa_, ls0_, ls1_])
 go_loopg [3] k (fun kq v3 w' => ∃ (x3_1 : Int), v3 = .int .i64 x3_1 ∧ Aside0 (br_.l0 kq a0 x3_1 = some r) ∧ Aside0 (kq ≤ k) ∧ av_ w w')
 case atStart => exact ⟨(0), (by first | rfl | (simp; done) | (simp [*]; done)), H', ⟨Nat.le_refl _⟩, by repeat (first | exact av_.refl _ | apply av_.step)⟩
 case round =>
  clear H'
  obtain ⟨x3_1, rfl, HA, HK1, ⟨m1, rfl⟩⟩ := hrel
  cases gk with
  | zero => exact absurd HA.out (by simp [br_.l0])
  | succ k1 =>
   have H := HA.out
   clear HA
   simp only [br_.l0] at H
   by_cases c2 : x3_1 < (a0.size : Int)
   rotate_left
   ·rw [if_neg c2] at H
    have c2b0 : decide (x3_1 < (a0.size : Int)) = false := decide_eq_false c2
    clear c2
    obtain rfl := Option.some.inj H
    go_wp2
    go_ret
    exact ⟨by first | rfl | (simp; done) | (simp [*]; done), by repeat (first | exact av_.refl _ | apply av_.step)⟩
   rw [if_pos c2] at H
   have c2b0 : decide (x3_1 < (a0.size : Int)) = true := decide_eq_true c2
   clear c2
   by_cases c3 : 0 ≤ x3_1
   rotate_left
   ·rw [if_neg c3] at H
    exact absurd H (by simp)
   rw [if_pos c3] at H
   have c3b0 : decide (0 ≤ x3_1) = true := decide_eq_true c3
   clear c3
   by_cases c5 : (bt a0 x3_1) < 32
   rotate_left
   ·rw [if_neg c5] at H
    have c5b0 : decide ((bt a0 x3_1) < 32) = false := decide_eq_false c5
    clear c5
    by_cases c7 : (bt a0 x3_1) > 126
    rotate_left
    ·rw [if_neg c7] at H
     have c7b0 : decide (126 < (bt a0 x3_1)) = false := decide_eq_false c7
     clear c7
     have H' := Aside0.mk H
     clear H
     have p4 : 0 ≤ (x3_1 : Int) := of_decide_eq_true (by assumption)
     have q4 : x3_1 < (a0.size : Int) := of_decide_eq_true (by assumption)
     have hx4 := bt_at a0 x3_1
     replace p4 := eq_true p4
     replace q4 := eq_true q4
     have p6 : 0 ≤ (x3_1 : Int) := of_decide_eq_true (by assumption)
     have q6 : x3_1 < (a0.size : Int) := of_decide_eq_true (by assumption)
     have hx6 := bt_at a0 x3_1
     replace p6 := eq_true p6
     replace q6 := eq_true q6
     go_wp2
     go_roundg k1
     case measure => have := HK1.out; omega
     case rel => exact ⟨(wrap64 (x3_1 + 1)), (by first | rfl | (simp; done) | (simp [*]; done)), H', ⟨by have := HK1.out; omega⟩, by repeat (first | exact av_.refl _ | apply av_.step)⟩
    rw [if_pos c7] at H
    have c7b0 : decide (126 < (bt a0 x3_1)) = true := decide_eq_true c7
    clear c7
    obtain rfl := Option.some.inj H
    have p4 : 0 ≤ (x3_1 : Int) := of_decide_eq_true (by assumption)
    have q4 : x3_1 < (a0.size : Int) := of_decide_eq_true (by assumption)
    have hx4 := bt_at a0 x3_1
    replace p4 := eq_true p4
    replace q4 := eq_true q4
    have p6 : 0 ≤ (x3_1 : Int) := of_decide_eq_true (by assumption)
    have q6 : x3_1 < (a0.size : Int) := of_decide_eq_true (by assumption)
    have hx6 := bt_at a0 x3_1
    replace p6 := eq_true p6
    replace q6 := eq_true q6
    go_wp2
    go_ret
    exact ⟨by first | rfl | (simp; done) | (simp [*]; done), by repeat (first | exact av_.refl _ | apply av_.step)⟩
   rw [if_pos c5] at H
   have c5b0 : decide ((bt a0 x3_1) < 32) = true := decide_eq_true c5
   clear c5
   obtain rfl := Option.some.inj H
   have p4 : 0 ≤ (x3_1 : Int) := of_decide_eq_true (by assumption)
   have q4 : x3_1 < (a0.size : Int) := of_decide_eq_true (by assumption)
   have hx4 := bt_at a0 x3_1
   replace p4 := eq_true p4
   replace q4 := eq_true q4
   go_wp2
   go_ret
   exact ⟨by first | rfl | (simp; done) | (simp [*]; done), by repeat (first | exact av_.refl _ | apply av_.step)⟩
def be_.l0 : Nat → List (S78) → List (S78) → Int → Int → Option (Bool)
 | 0, _, _, _, _ => none
 | k + 1, x0, x5, x6, x7 => if x7 < x6 then (if 0 ≤ x7 then (if x7 < (x5.length : Int) then (if ((ak_ x5 x7).f0) = (wrap64 (x7 + 1)) then ((by_.f ((ak_ x5 x7).f1) 0 x7).bind fun t103 => (if t103 = true then ((br_.f k ((ak_ x5 x7).f2)).bind fun t104 => (if t104 = true then ((ap_.f k ((ak_ x5 x7).f3)).bind fun t105 => (if t105 = true then (be_.l0 k x0 x5 x6 (wrap64 (x7 + 1))) else (some false))) else (some false))) else (some false))) else (some false)) else (none)) else (none)) else (some (decide ((x0.length : Int) ≤ 16)))
def be_.f (k : Nat) (l0 : List (S78)) : Option (Bool) := be_.l0 k l0 l0 (l0.length : Int) 0
set_option maxHeartbeats 8000000 in
set_option maxRecDepth 100000 in
theorem be_.calls (k : Nat) (A0 : Option Addr) (c0 : Nat) (l0 : List (S78)) (r : Bool) (w : World) (hr0 : Kd.C k78 w A0 l0.length l0) (hc0 : l0.length ≤ c0) (h : be_.f k l0 = some r) :
  Calls Try.prog 78 #[.slice A0 l0.length c0] w fun e w' => e = .returned (.bool r) ∧ Below w.heap.size w w' := by
 have hu78 := Try.underlying78
 have HR0 := Aside0.mk hr0
 have HC0 := Aside0.mk hc0
 clear hr0 hc0
 have HB := Aside0.mk (Below.refl w.heap.size w)
 have H : (be_.l0 k l0 l0 (l0.length : Int) 0) = some r := h
 clear h
 have H' := Aside0.mk H
 clear H
 go_enter Try.func78, Try.ntmps78
 go_wp2
 (try simp only [Act.put, lsa_, ls0_, ls1_])
 go_loopg [7] k (fun kq v7 w' => ∃ (x7_1 : Int), v7 = .int .i64 x7_1 ∧ Aside0 (be_.l0 kq l0 l0 (l0.length : Int) x7_1 = some r) ∧ Aside0 (kq ≤ k) ∧ Aside0 (Below w.heap.size w w'))
 case atStart => exact ⟨(0), (by first | rfl | (simp; done) | (simp [*]; done)), H', ⟨Nat.le_refl _⟩, ⟨bz HB.out⟩⟩
 case round =>
  clear H'
  obtain ⟨x7_1, rfl, HA, HK1, HB⟩ := hrel
  cases gk with
  | zero => exact absurd HA.out (by simp [be_.l0])
  | succ k1 =>
   have H := HA.out
   clear HA
   simp only [be_.l0] at H
   by_cases c2 : x7_1 < (l0.length : Int)
   rotate_left
   ·rw [if_neg c2] at H
    have c2b0 : decide (x7_1 < (l0.length : Int)) = false := decide_eq_false c2
    clear c2
    obtain rfl := Option.some.inj H
    go_wp2
    go_ret
    exact ⟨by first | rfl | (simp [*, an_, ao_] <;> rfl), bz HB.out⟩
   rw [if_pos c2] at H
   have c2b0 : decide (x7_1 < (l0.length : Int)) = true := decide_eq_true c2
   clear c2
   by_cases c3 : 0 ≤ x7_1
   rotate_left
   ·rw [if_neg c3] at H
    exact absurd H (by simp)
   rw [if_pos c3] at H
   have c3b0 : decide (0 ≤ x7_1) = true := decide_eq_true c3
   clear c3
   by_cases c4 : x7_1 < (l0.length : Int)
   rotate_left
   ·rw [if_neg c4] at H
    exact absurd H (by simp)
   rw [if_pos c4] at H
   have c4b0 : decide (x7_1 < (l0.length : Int)) = true := decide_eq_true c4
   clear c4
   by_cases c5 : ((ak_ l0 x7_1).f0) = (wrap64 (x7_1 + 1))
   rotate_left
   ·rw [if_neg c5] at H
    have c5b0 : (((ak_ l0 x7_1).f0) == (wrap64 (x7_1 + 1))) = false := beq_eq_false_iff_ne.mpr c5
    have c5b1 : (((ak_ l0 x7_1).f0) != (wrap64 (x7_1 + 1))) = true := bne_iff_ne.mpr c5
    obtain rfl := Option.some.inj H
    have p101 : 0 ≤ (x7_1 : Int) := of_decide_eq_true (by assumption)
    have q101 : x7_1 < (l0.length : Int) := of_decide_eq_true (by assumption)
    obtain ⟨ad101, A101_3, c101_3, e101, hx101_0, hx101_1, hx101_2, hx101_3, hl101_3, hi101_3⟩ := cL_ HR0.out x7_1 p101 q101
    cases e101
    replace hx101_0 := (HB.out.cell (bl_ w _ hx101_0)).trans hx101_0
    replace hx101_1 := (HB.out.cell (bl_ w _ hx101_1)).trans hx101_1
    replace hx101_2 := (HB.out.cell (bl_ w _ hx101_2)).trans hx101_2
    replace hx101_3 := (HB.out.cell (bl_ w _ hx101_3)).trans hx101_3
    have HR101_3 := Aside0.mk hi101_3
    have HC101_3 := Aside0.mk hl101_3
    clear hi101_3 hl101_3
    replace p101 := eq_true p101
    replace q101 := eq_true q101
    go_wp2_with (first | ((with_reducible refine au_ (N := 4) rfl ?_); refine aQ_ ?hg (N := 4) ?hd (cs := #[.int .i64 0, .int .i64 0, .string (⟨#[]⟩ : ByteArray), .slice none 0 0]) (t := 78) ?hr ?_; (case hd => rfl); (case hg => rfl); (case hr => (go_simp; try rfl)); intro gb102 hg w20 hbox hb; have BK102 := Aside0.mk (hbox); have GW102 := Aside0.mk ((by rw [hg]; exact (ae_ (bz HB.out)) : w.heap.size ≤ gb102)); have GE102 := Aside0.mk ((by rw [hg]; exact (ae_ (bz HB.out)) : w.heap.size ≤ gb102)); replace HB := Aside0.mk (ag_ (bz HB.out) hb); clear hb hbox hg; have hcz21_0 : w20.cell? ⟨gb102, 0, none⟩ = some (.int .i64 0) := (ab_ BK102.out 0).trans rfl; have hcz21_1 : w20.cell? ⟨gb102, 1, none⟩ = some (.int .i64 0) := (ab_ BK102.out 1).trans rfl; have hcz21_2 : w20.cell? ⟨gb102, 2, none⟩ = some (.string (⟨#[]⟩ : ByteArray)) := (ab_ BK102.out 2).trans rfl; have hcz21_3 : w20.cell? ⟨gb102, 3, none⟩ = some (.slice none 0 0) := (ab_ BK102.out 3).trans rfl; have hfz21_0 := aa_ BK102.out 0; have hfz21_1 := aa_ BK102.out 1; have hfz21_2 := aa_ BK102.out 2; have hfz21_3 := aa_ BK102.out 3))
    go_ret
    exact ⟨by first | rfl | (simp [*, an_, ao_] <;> rfl), by repeat (first | (with_reducible first | exact HB.out | apply bA_ | apply bN_ | apply bD_ | refine ac_ ?_ GE102.out) | exact HB.out)⟩
   rw [if_pos c5] at H
   have c5b0 : (((ak_ l0 x7_1).f0) == (wrap64 (x7_1 + 1))) = true := beq_iff_eq.mpr c5
   have c5b1 : (((ak_ l0 x7_1).f0) != (wrap64 (x7_1 + 1))) = false := bne_eq_false_iff_eq.mpr c5
   clear c5
   replace H := Option.bind_eq_some_iff.mp H
   obtain ⟨t103, A60, H⟩ := H
   (try dsimp only at H)
   have A6 := Aside0.mk A60
   clear A60
   by_cases c7 : t103 = true
   rotate_left
   ·replace c7 := Bool.eq_false_iff.mpr c7
    subst c7
    have H1 : (some false) = some r := by rw [if_neg (show ¬ (false = true) by decide)] at H; exact H
    clear H
    have H := H1
    clear H1
    obtain rfl := Option.some.inj H
    have p101 : 0 ≤ (x7_1 : Int) := of_decide_eq_true (by assumption)
    have q101 : x7_1 < (l0.length : Int) := of_decide_eq_true (by assumption)
    obtain ⟨ad101, A101_3, c101_3, e101, hx101_0, hx101_1, hx101_2, hx101_3, hl101_3, hi101_3⟩ := cL_ HR0.out x7_1 p101 q101
    cases e101
    replace hx101_0 := (HB.out.cell (bl_ w _ hx101_0)).trans hx101_0
    replace hx101_1 := (HB.out.cell (bl_ w _ hx101_1)).trans hx101_1
    replace hx101_2 := (HB.out.cell (bl_ w _ hx101_2)).trans hx101_2
    replace hx101_3 := (HB.out.cell (bl_ w _ hx101_3)).trans hx101_3
    have HR101_3 := Aside0.mk hi101_3
    have HC101_3 := Aside0.mk hl101_3
    clear hi101_3 hl101_3
    replace p101 := eq_true p101
    replace q101 := eq_true q101
    go_wp2_with (first | ((with_reducible refine au_ (N := 4) rfl ?_); refine aQ_ ?hg (N := 4) ?hd (cs := #[.int .i64 0, .int .i64 0, .string (⟨#[]⟩ : ByteArray), .slice none 0 0]) (t := 78) ?hr ?_; (case hd => rfl); (case hg => rfl); (case hr => (go_simp; try rfl)); intro gb102 hg w18 hbox hb; have BK102 := Aside0.mk (hbox); have GW102 := Aside0.mk ((by rw [hg]; exact (ae_ (bz HB.out)) : w.heap.size ≤ gb102)); have GE102 := Aside0.mk ((by rw [hg]; exact (ae_ (bz HB.out)) : w.heap.size ≤ gb102)); replace HB := Aside0.mk (ag_ (bz HB.out) hb); clear hb hbox hg; have hcz19_0 : w18.cell? ⟨gb102, 0, none⟩ = some (.int .i64 0) := (ab_ BK102.out 0).trans rfl; have hcz19_1 : w18.cell? ⟨gb102, 1, none⟩ = some (.int .i64 0) := (ab_ BK102.out 1).trans rfl; have hcz19_2 : w18.cell? ⟨gb102, 2, none⟩ = some (.string (⟨#[]⟩ : ByteArray)) := (ab_ BK102.out 2).trans rfl; have hcz19_3 : w18.cell? ⟨gb102, 3, none⟩ = some (.slice none 0 0) := (ab_ BK102.out 3).trans rfl; have hfz19_0 := aa_ BK102.out 0; have hfz19_1 := aa_ BK102.out 1; have hfz19_2 := aa_ BK102.out 2; have hfz19_3 := aa_ BK102.out 3) | (go_at_call 79; (with_reducible refine (by_.calls ((ak_ l0 x7_1).f1) 0 x7_1 false _ A6.out).mono ?_); rintro e w' ⟨rfl, ⟨nd, rfl⟩⟩))
    go_ret
    exact ⟨by first | rfl | (simp [*, an_, ao_] <;> rfl), by repeat (first | (with_reducible first | exact HB.out | apply bA_ | apply bN_ | apply bD_ | refine ac_ ?_ GE102.out) | exact HB.out)⟩
   subst c7
   have H1 : ((br_.f k1 ((ak_ l0 x7_1).f2)).bind fun t104 => (if t104 = true then ((ap_.f k1 ((ak_ l0 x7_1).f3)).bind fun t105 => (if t105 = true then (be_.l0 k1 l0 l0 (l0.length : Int) (wrap64 (x7_1 + 1))) else (some false))) else (some false))) = some r := by rw [if_pos rfl] at H; exact H
   clear H
   have H := H1
   clear H1
   replace H := Option.bind_eq_some_iff.mp H
   obtain ⟨t104, A80, H⟩ := H
   (try dsimp only at H)
   have A8 := Aside0.mk A80
   clear A80
   by_cases c9 : t104 = true
   rotate_left
   ·replace c9 := Bool.eq_false_iff.mpr c9
    subst c9
    have H1 : (some false) = some r := by rw [if_neg (show ¬ (false = true) by decide)] at H; exact H
    clear H
    have H := H1
    clear H1
    obtain rfl := Option.some.inj H
    have p101 : 0 ≤ (x7_1 : Int) := of_decide_eq_true (by assumption)
    have q101 : x7_1 < (l0.length : Int) := of_decide_eq_true (by assumption)
    obtain ⟨ad101, A101_3, c101_3, e101, hx101_0, hx101_1, hx101_2, hx101_3, hl101_3, hi101_3⟩ := cL_ HR0.out x7_1 p101 q101
    cases e101
    replace hx101_0 := (HB.out.cell (bl_ w _ hx101_0)).trans hx101_0
    replace hx101_1 := (HB.out.cell (bl_ w _ hx101_1)).trans hx101_1
    replace hx101_2 := (HB.out.cell (bl_ w _ hx101_2)).trans hx101_2
    replace hx101_3 := (HB.out.cell (bl_ w _ hx101_3)).trans hx101_3
    have HR101_3 := Aside0.mk hi101_3
    have HC101_3 := Aside0.mk hl101_3
    clear hi101_3 hl101_3
    replace p101 := eq_true p101
    replace q101 := eq_true q101
    go_wp2_with (first | ((with_reducible refine au_ (N := 4) rfl ?_); refine aQ_ ?hg (N := 4) ?hd (cs := #[.int .i64 0, .int .i64 0, .string (⟨#[]⟩ : ByteArray), .slice none 0 0]) (t := 78) ?hr ?_; (case hd => rfl); (case hg => rfl); (case hr => (go_simp; try rfl)); intro gb102 hg w16 hbox hb; have BK102 := Aside0.mk (hbox); have GW102 := Aside0.mk ((by rw [hg]; exact (ae_ (bz HB.out)) : w.heap.size ≤ gb102)); have GE102 := Aside0.mk ((by rw [hg]; exact (ae_ (bz HB.out)) : w.heap.size ≤ gb102)); replace HB := Aside0.mk (ag_ (bz HB.out) hb); clear hb hbox hg; have hcz17_0 : w16.cell? ⟨gb102, 0, none⟩ = some (.int .i64 0) := (ab_ BK102.out 0).trans rfl; have hcz17_1 : w16.cell? ⟨gb102, 1, none⟩ = some (.int .i64 0) := (ab_ BK102.out 1).trans rfl; have hcz17_2 : w16.cell? ⟨gb102, 2, none⟩ = some (.string (⟨#[]⟩ : ByteArray)) := (ab_ BK102.out 2).trans rfl; have hcz17_3 : w16.cell? ⟨gb102, 3, none⟩ = some (.slice none 0 0) := (ab_ BK102.out 3).trans rfl; have hfz17_0 := aa_ BK102.out 0; have hfz17_1 := aa_ BK102.out 1; have hfz17_2 := aa_ BK102.out 2; have hfz17_3 := aa_ BK102.out 3) | (go_at_call 79; (with_reducible refine (by_.calls ((ak_ l0 x7_1).f1) 0 x7_1 true _ A6.out).mono ?_); rintro e w' ⟨rfl, ⟨nd, rfl⟩⟩) | (go_at_call 54; (with_reducible refine (br_.calls k1 ((ak_ l0 x7_1).f2) false _ A8.out).mono ?_); rintro e w' ⟨rfl, ⟨nd, rfl⟩⟩))
    go_ret
    exact ⟨by first | rfl | (simp [*, an_, ao_] <;> rfl), by repeat (first | (with_reducible first | exact HB.out | apply bA_ | apply bN_ | apply bD_ | refine ac_ ?_ GE102.out) | exact HB.out)⟩
   subst c9
   have H1 : ((ap_.f k1 ((ak_ l0 x7_1).f3)).bind fun t105 => (if t105 = true then (be_.l0 k1 l0 l0 (l0.length : Int) (wrap64 (x7_1 + 1))) else (some false))) = some r := by rw [if_pos rfl] at H; exact H
   clear H
   have H := H1
   clear H1
   replace H := Option.bind_eq_some_iff.mp H
   obtain ⟨t105, A100, H⟩ := H
   (try dsimp only at H)
   have A10 := Aside0.mk A100
   clear A100
   have HC11 := Aside0.mk H
   clear H
   have p101 : 0 ≤ (x7_1 : Int) := of_decide_eq_true (by assumption)
   have q101 : x7_1 < (l0.length : Int) := of_decide_eq_true (by assumption)
   obtain ⟨ad101, A101_3, c101_3, e101, hx101_0, hx101_1, hx101_2, hx101_3, hl101_3, hi101_3⟩ := cL_ HR0.out x7_1 p101 q101
   cases e101
   replace hx101_0 := (HB.out.cell (bl_ w _ hx101_0)).trans hx101_0
   replace hx101_1 := (HB.out.cell (bl_ w _ hx101_1)).trans hx101_1
   replace hx101_2 := (HB.out.cell (bl_ w _ hx101_2)).trans hx101_2
   replace hx101_3 := (HB.out.cell (bl_ w _ hx101_3)).trans hx101_3
   have HR101_3 := Aside0.mk hi101_3
   have HC101_3 := Aside0.mk hl101_3
   clear hi101_3 hl101_3
   replace p101 := eq_true p101
   replace q101 := eq_true q101
   go_upto_if 35 with (first | ((with_reducible refine au_ (N := 4) rfl ?_); refine aQ_ ?hg (N := 4) ?hd (cs := #[.int .i64 0, .int .i64 0, .string (⟨#[]⟩ : ByteArray), .slice none 0 0]) (t := 78) ?hr ?_; (case hd => rfl); (case hg => rfl); (case hr => (go_simp; try rfl)); intro gb102 hg w12 hbox hb; have BK102 := Aside0.mk (hbox); have GW102 := Aside0.mk ((by rw [hg]; exact (ae_ (bz HB.out)) : w.heap.size ≤ gb102)); have GE102 := Aside0.mk ((by rw [hg]; exact (ae_ (bz HB.out)) : w.heap.size ≤ gb102)); replace HB := Aside0.mk (ag_ (bz HB.out) hb); clear hb hbox hg; have hcz13_0 : w12.cell? ⟨gb102, 0, none⟩ = some (.int .i64 0) := (ab_ BK102.out 0).trans rfl; have hcz13_1 : w12.cell? ⟨gb102, 1, none⟩ = some (.int .i64 0) := (ab_ BK102.out 1).trans rfl; have hcz13_2 : w12.cell? ⟨gb102, 2, none⟩ = some (.string (⟨#[]⟩ : ByteArray)) := (ab_ BK102.out 2).trans rfl; have hcz13_3 : w12.cell? ⟨gb102, 3, none⟩ = some (.slice none 0 0) := (ab_ BK102.out 3).trans rfl; have hfz13_0 := aa_ BK102.out 0; have hfz13_1 := aa_ BK102.out 1; have hfz13_2 := aa_ BK102.out 2; have hfz13_3 := aa_ BK102.out 3) | (go_at_call 79; (with_reducible refine (by_.calls ((ak_ l0 x7_1).f1) 0 x7_1 true _ A6.out).mono ?_); rintro e w' ⟨rfl, ⟨nd, rfl⟩⟩) | (go_at_call 54; (with_reducible refine (br_.calls k1 ((ak_ l0 x7_1).f2) true _ A8.out).mono ?_); rintro e w' ⟨rfl, ⟨nd, rfl⟩⟩) | (go_at_call 39; (with_reducible refine (ap_.calls k1 _ _ ((ak_ l0 x7_1).f3) t105 _ ?side1 ?side2 A10.out).mono ?_); (case side1 => exact Kd.bE_ HR101_3.out (by repeat (first | (with_reducible first | exact HB.out | apply bA_ | apply bN_ | apply bD_ | refine ac_ ?_ GE102.out) | exact HB.out))); (case side2 => exact HC101_3.out); rintro e w14 ⟨rfl, hb⟩; replace BK102 := Aside0.mk (aG_ (g := gb102) (o := .cells #[.int .i64 ((ak_ l0 x7_1).f0), .int .i64 ((ak_ l0 x7_1).f1), .string ((ak_ l0 x7_1).f2), .slice A101_3 ((ak_ l0 x7_1).f3).length c101_3] 78 (0, 0)) (by (with_reducible repeat (first | refine ai_ ?_ _ | refine aj_ ?_ | refine ah_ ?_ _)); refine aB_ (cs := #[.int .i64 ((ak_ l0 x7_1).f0), .int .i64 ((ak_ l0 x7_1).f1), .string ((ak_ l0 x7_1).f2), .slice none 0 0]) ?_ 3 _ rfl; (with_reducible repeat (first | refine ai_ ?_ _ | refine aj_ ?_ | refine ah_ ?_ _)); refine aB_ (cs := #[.int .i64 ((ak_ l0 x7_1).f0), .int .i64 ((ak_ l0 x7_1).f1), .string (⟨#[]⟩ : ByteArray), .slice none 0 0]) ?_ 2 _ rfl; (with_reducible repeat (first | refine ai_ ?_ _ | refine aj_ ?_ | refine ah_ ?_ _)); refine aB_ (cs := #[.int .i64 ((ak_ l0 x7_1).f0), .int .i64 0, .string (⟨#[]⟩ : ByteArray), .slice none 0 0]) ?_ 1 _ rfl; (with_reducible repeat (first | refine ai_ ?_ _ | refine aj_ ?_ | refine ah_ ?_ _)); refine aB_ (cs := #[.int .i64 0, .int .i64 0, .string (⟨#[]⟩ : ByteArray), .slice none 0 0]) ?_ 0 _ rfl; (with_reducible repeat (first | refine ai_ ?_ _ | refine aj_ ?_ | refine ah_ ?_ _)); exact BK102.out) hb); replace HB := Aside0.mk (ag_ (by repeat (first | (with_reducible first | exact HB.out | apply bA_ | apply bN_ | apply bD_ | refine ac_ ?_ GE102.out) | exact HB.out)) hb); (try clear hb)))
   (try simp only [Act.put, lsa_, ls0_, ls1_])
   have H := HC11.out
   clear HC11
   by_cases c15 : t105 = true
   rotate_left
   ·replace c15 := Bool.eq_false_iff.mpr c15
    subst c15
    have H1 : (some false) = some r := by rw [if_neg (show ¬ (false = true) by decide)] at H; exact H
    clear H
    have H := H1
    clear H1
    obtain rfl := Option.some.inj H
    go_wp2
    go_ret
    exact ⟨by first | rfl | (simp [*, an_, ao_] <;> rfl), by repeat (first | (with_reducible first | exact HB.out | apply bA_ | apply bN_ | apply bD_ | refine ac_ ?_ GE102.out) | exact HB.out)⟩
   subst c15
   have H1 : (be_.l0 k1 l0 l0 (l0.length : Int) (wrap64 (x7_1 + 1))) = some r := by rw [if_pos rfl] at H; exact H
   clear H
   have H := H1
   clear H1
   have H' := Aside0.mk H
   clear H
   go_wp2
   go_roundg k1
   case measure => have := HK1.out; omega
   case rel => exact ⟨(wrap64 (x7_1 + 1)), (by first | rfl | (simp; done) | (simp [*]; done)), H', ⟨by have := HK1.out; omega⟩, ⟨by repeat (first | (with_reducible first | exact HB.out | apply bA_ | apply bN_ | apply bD_ | refine ac_ ?_ GE102.out) | exact HB.out)⟩⟩
def aU_.l0 : Nat → List (S78) → List Int → Int → Int → Option (Int)
 | 0, _, _, _, _ => none
 | k + 1, x0, x10, x11, x12 => if x12 < x11 then (if 0 ≤ x12 then (if x12 < (x10.length : Int) then ((by_.f (rd x10 x12) 1 (x0.length : Int)).bind fun t103 => (if t103 = true then (aU_.l0 k x0 x10 x11 (wrap64 (x12 + 1))) else (some 3))) else (none)) else (none)) else (some 0)
def aU_.f (k : Nat) (l0 : List (S78)) (l1 : List Int) : Option (Int) := (be_.f k l0).bind fun t101 => (if t101 = true then (aU_.l0 k l0 l1 (l1.length : Int) 0) else (some 1))
set_option maxHeartbeats 8000000 in
set_option maxRecDepth 100000 in
theorem aU_.calls (k : Nat) (A0 : Option Addr) (c0 : Nat) (l0 : List (S78)) (A1 : Option Addr) (c1 : Nat) (l1 : List Int) (r : Int) (w : World) (hr0 : Kd.C k78 w A0 l0.length l0) (hc0 : l0.length ≤ c0) (hr1 : Kd.C (Kd.int .i64) w A1 l1.length l1) (hc1 : l1.length ≤ c1) (h : aU_.f k l0 l1 = some r) :
  Calls Try.prog 53 #[.slice A0 l0.length c0, .slice A1 l1.length c1] w fun e w' => e = .returned (.int .i64 r) ∧ Below w.heap.size w w' := by
 have HR0 := Aside0.mk hr0
 have HC0 := Aside0.mk hc0
 clear hr0 hc0
 have HR1 := Aside0.mk hr1
 have HC1 := Aside0.mk hc1
 clear hr1 hc1
 have HB := Aside0.mk (Below.refl w.heap.size w)
 have H : ((be_.f k l0).bind fun t101 => (if t101 = true then (aU_.l0 k l0 l1 (l1.length : Int) 0) else (some 1))) = some r := h
 clear h
 replace H := Option.bind_eq_some_iff.mp H
 obtain ⟨t101, A30, H⟩ := H
 (try dsimp only at H)
 have A3 := Aside0.mk A30
 clear A30
 have HC4 := Aside0.mk H
 clear H
 go_enter Try.func53, Try.ntmps53
 go_upto_if 9 with (first | ((with_reducible refine am_ (f := 78) rfl ?_); refine aX_ (some 8) rfl rfl Try.func78 (by kernel_rfl) rfl #[.slice A0 l0.length c0] rfl (by first | rfl | (simp only [List.map_toArray, List.map_cons, List.map_nil]; first | done | rfl)) ?_; (with_reducible refine (be_.calls k _ _ l0 t101 _ ?side1 ?side2 A3.out).mono ?_); (case side1 => exact cz HR0.out); (case side2 => exact HC0.out); rintro e w5 ⟨rfl, hb⟩; refine ⟨_, rfl, ?_⟩; replace HB := Aside0.mk (ag_ (bz HB.out) hb); (try clear hb)))
 (try simp only [Act.put, lsa_, ls0_, ls1_])
 have H := HC4.out
 clear HC4
 by_cases c6 : t101 = true
 rotate_left
 ·replace c6 := Bool.eq_false_iff.mpr c6
  subst c6
  have H1 : (some 1) = some r := by rw [if_neg (show ¬ (false = true) by decide)] at H; exact H
  clear H
  have H := H1
  clear H1
  obtain rfl := Option.some.inj H
  go_wp2
  go_ret
  exact ⟨by first | rfl | (simp [*, an_, ao_] <;> rfl), bz HB.out⟩
 subst c6
 have H1 : (aU_.l0 k l0 l1 (l1.length : Int) 0) = some r := by rw [if_pos rfl] at H; exact H
 clear H
 have H := H1
 clear H1
 have H' := Aside0.mk H
 clear H
 go_wp2
 (try simp only [Act.put, lsa_, ls0_, ls1_])
 go_loopg [12] k (fun kq v12 w' => ∃ (x12_1 : Int), v12 = .int .i64 x12_1 ∧ Aside0 (aU_.l0 kq l0 l1 (l1.length : Int) x12_1 = some r) ∧ Aside0 (kq ≤ k) ∧ Aside0 (Below w.heap.size w w'))
 case atStart => exact ⟨(0), (by first | rfl | (simp; done) | (simp [*]; done)), H', ⟨Nat.le_refl _⟩, ⟨bz HB.out⟩⟩
 case round =>
  clear H'
  obtain ⟨x12_1, rfl, HA, HK1, HB⟩ := hrel
  cases gk with
  | zero => exact absurd HA.out (by simp [aU_.l0])
  | succ k1 =>
   have H := HA.out
   clear HA
   simp only [aU_.l0] at H
   by_cases c7 : x12_1 < (l1.length : Int)
   rotate_left
   ·rw [if_neg c7] at H
    have c7b0 : decide (x12_1 < (l1.length : Int)) = false := decide_eq_false c7
    clear c7
    (first | rw [c7b0] | (simp only [i64_w, i32_w]; rw [c7b0]) | (simp only [c7b1, Bool.not_true, Bool.not_false]) | (simp only [c7b0, Bool.not_true, Bool.not_false]) | skip)
    obtain rfl := Option.some.inj H
    go_wp2
    go_ret
    exact ⟨by first | rfl | (simp [*, an_, ao_] <;> rfl), bz HB.out⟩
   rw [if_pos c7] at H
   have c7b0 : decide (x12_1 < (l1.length : Int)) = true := decide_eq_true c7
   clear c7
   (first | rw [c7b0] | (simp only [i64_w, i32_w]; rw [c7b0]) | (simp only [c7b1, Bool.not_true, Bool.not_false]) | (simp only [c7b0, Bool.not_true, Bool.not_false]) | skip)
   by_cases c8 : 0 ≤ x12_1
   rotate_left
   ·rw [if_neg c8] at H
    exact absurd H (by simp)
   rw [if_pos c8] at H
   have c8b0 : decide (0 ≤ x12_1) = true := decide_eq_true c8
   clear c8
   by_cases c9 : x12_1 < (l1.length : Int)
   rotate_left
   ·rw [if_neg c9] at H
    exact absurd H (by simp)
   rw [if_pos c9] at H
   have c9b0 : decide (x12_1 < (l1.length : Int)) = true := decide_eq_true c9
   clear c9
   replace H := Option.bind_eq_some_iff.mp H
   obtain ⟨t103, A100, H⟩ := H
   (try dsimp only at H)
   have A10 := Aside0.mk A100
   clear A100
   have HC11 := Aside0.mk H
   clear H
   have p102 : 0 ≤ (x12_1 : Int) := of_decide_eq_true (by assumption)
   have q102 : x12_1 < (l1.length : Int) := of_decide_eq_true (by assumption)
   obtain ⟨ad102, e102, hx102_0⟩ := Kd.at_int HR1.out x12_1 p102 q102
   cases e102
   replace hx102_0 := (HB.out.cell (bl_ w _ hx102_0)).trans hx102_0
   replace p102 := eq_true p102
   replace q102 := eq_true q102
   go_upto_if 20 with (first | ((with_reducible refine am_ (f := 79) rfl ?_); refine aX_ (some 19) rfl rfl Try.func79 (by kernel_rfl) rfl #[.int .i64 (rd l1 x12_1), .int .i64 1, .int .i64 (l0.length : Int)] rfl (by first | rfl | (simp only [List.map_toArray, List.map_cons, List.map_nil]; first | done | rfl)) ?_; (with_reducible refine (by_.calls (rd l1 x12_1) 1 (l0.length : Int) t103 _ A10.out).mono ?_); rintro e w' ⟨rfl, ⟨nd, rfl⟩⟩; refine ⟨_, rfl, ?_⟩; (try (rw [cV_ wr]; generalize hq_ : World.drewN wr _ = wr; have n0_ : Aside0 (Below w.heap.size w wr) := ⟨by rw [← hq_]; exact (bz HB.out)⟩; clear HB hq_; have HB := n0_; clear n0_))))
   (try simp only [Act.put, lsa_, ls0_, ls1_])
   have H := HC11.out
   clear HC11
   by_cases c12 : t103 = true
   rotate_left
   ·replace c12 := Bool.eq_false_iff.mpr c12
    subst c12
    have H1 : (some 3) = some r := by rw [if_neg (show ¬ (false = true) by decide)] at H; exact H
    clear H
    have H := H1
    clear H1
    obtain rfl := Option.some.inj H
    go_wp2
    go_ret
    exact ⟨by first | rfl | (simp [*, an_, ao_] <;> rfl), bz HB.out⟩
   subst c12
   have H1 : (aU_.l0 k1 l0 l1 (l1.length : Int) (wrap64 (x12_1 + 1))) = some r := by rw [if_pos rfl] at H; exact H
   clear H
   have H := H1
   clear H1
   have H' := Aside0.mk H
   clear H
   go_wp2
   go_roundg k1
   case measure => have := HK1.out; omega
   case rel => exact ⟨(wrap64 (x12_1 + 1)), (by first | rfl | (simp; done) | (simp [*]; done)), H', ⟨by have := HK1.out; omega⟩, ⟨bz HB.out⟩⟩
def cx_.f (l0 : List (S78)) (a1 : Int) : Option ((List (S63))) := if a1 = 0 then (some ([] : List (S63))) else (if 0 ≤ (wrap64 (a1 - 1)) then (if (wrap64 (a1 - 1)) < (l0.length : Int) then (some ((ak_ l0 (wrap64 (a1 - 1))).f3)) else (none)) else (none))
set_option maxHeartbeats 8000000 in
set_option maxRecDepth 100000 in
theorem cx_.calls (P0_ : Nat → Prop) (A0 : Option Addr) (c0 : Nat) (l0 : List (S78)) (a1 : Int) (r : List (S63)) (w : World) (hs0 : Kd.V k78 78 w w.heap.size (fun k_ => P0_ k_) (.slice A0 l0.length c0) l0) (h : cx_.f l0 a1 = some r) :
  Calls Try.prog 55 #[.slice A0 l0.length c0, .int .i64 a1] w fun e w' => ∃ v0_ : Value, e = .returned (v0_) ∧ Kd.V k63 63 w' w.heap.size (fun k_ => (P0_ k_ ∨ w.heap.size ≤ k_)) v0_ r ∧ Below w.heap.size w w' := by
 have HO0 := Aside0.mk (show Kd.V k78 78 w w.heap.size (fun k_ => (P0_ k_ ∨ w.heap.size ≤ k_)) (.slice A0 l0.length c0) l0 from Kd.aW_ hs0 (fun k_ hk => .inl hk))
 have HB := Aside0.mk (Below.refl w.heap.size w)
 have H : (if a1 = 0 then (some ([] : List (S63))) else (if 0 ≤ (wrap64 (a1 - 1)) then (if (wrap64 (a1 - 1)) < (l0.length : Int) then (some ((ak_ l0 (wrap64 (a1 - 1))).f3)) else (none)) else (none))) = some r := h
 clear h
 by_cases c3 : a1 = 0
 rotate_left
 ·rw [if_neg c3] at H
  have c3b0 : (a1 == 0) = false := beq_eq_false_iff_ne.mpr c3
  have c3b1 : (a1 != 0) = true := bne_iff_ne.mpr c3
  obtain ⟨ji4, hji4⟩ : ∃ j_ : Int, (wrap64 (a1 - 1)) = j_ := ⟨_, rfl⟩
  replace H : (if 0 ≤ (ji4) then (if (ji4) < (l0.length : Int) then (some ((ak_ l0 (ji4)).f3)) else (none)) else (none)) = some r := by first | (rw [hji4] at H; exact H) | (simp only [hji4] at H ⊢; exact H)
  have hji4w : (IntKind.i64.wrap (a1 - 1)) = ji4 := (i64_w _).trans hji4
  by_cases c5 : 0 ≤ (ji4)
  rotate_left
  ·rw [if_neg c5] at H
   exact absurd H (by simp)
  rw [if_pos c5] at H
  have c5b0 : decide (0 ≤ (ji4)) = true := decide_eq_true c5
  clear c5
  by_cases c6 : (ji4) < (l0.length : Int)
  rotate_left
  ·rw [if_neg c6] at H
   exact absurd H (by simp)
  rw [if_pos c6] at H
  have c6b0 : decide ((ji4) < (l0.length : Int)) = true := decide_eq_true c6
  clear c6
  obtain rfl := Option.some.inj H
  have p101 : 0 ≤ ((ji4) : Int) := of_decide_eq_true (by assumption)
  have q101 : (ji4) < (l0.length : Int) := of_decide_eq_true (by assumption)
  obtain ⟨ad101, A101_3, c101_3, e101, hx101_0, hx101_1, hx101_2, hx101_3, hl101_3, hi101_3⟩ := cL_ (Kd.bb_ HO0.out).2.2 (ji4) p101 q101
  cases e101
  obtain ⟨ce101, hce101, hMe101, hcc101⟩ := Kd.V_get HO0.out z78 (ji4) p101 (by first | exact q101 | exact of_decide_eq_true (by assumption) | (have e_ := (Kd.bb_ HO0.out).1; omega))
  obtain ⟨ua101_3, uc101_3, rfl, ul101_3, ge101_3⟩ := k78_openF hMe101
  have hv101_3 := hcc101 3 _ rfl
  rw [cy_ _ _ 3 (by omega)] at hv101_3
  replace hv101_3 := Option.some.inj (hv101_3.symm.trans hx101_3)
  injection hv101_3 with hva_ hvn_ hvc_
  rw [hva_] at ge101_3
  rw [hvc_] at ul101_3
  have HL101_3 := Aside0.mk (show Kd.V k63 63 _ w.heap.size _ _ ((ak_ l0 (ji4)).f3) from Kd.V_mk ul101_3 ge101_3)
  clear hva_ hvn_ hvc_ ge101_3 ul101_3
  clear hcc101 hce101
  have HR101_3 := Aside0.mk hi101_3
  have HC101_3 := Aside0.mk hl101_3
  clear hi101_3 hl101_3
  replace p101 := eq_true p101
  replace q101 := eq_true q101
  go_enter Try.func55, Try.ntmps55
  go_wp2
  go_ret
  exact ⟨_, by first | rfl | (simp [an_, ao_] <;> rfl) | (simp only [← hji4]; first | rfl | (simp [an_, ao_] <;> rfl)) | (simp [*, an_, ao_] <;> rfl), vz HL101_3.out, bz HB.out⟩
 rw [if_pos c3] at H
 have c3b0 : (a1 == 0) = true := beq_iff_eq.mpr c3
 have c3b1 : (a1 != 0) = false := bne_eq_false_iff_eq.mpr c3
 clear c3
 obtain rfl := Option.some.inj H
 go_enter Try.func55, Try.ntmps55
 go_wp2
 go_ret
 exact ⟨_, by first | rfl | (simp [*, an_, ao_] <;> rfl), Kd.V_nil _ _ _ _ _, bz HB.out⟩
def bB_.l0 : Nat → List (S78) → List Int → Int → Option (List Int)
 | 0, _, _, _ => none
 | k + 1, x0, x5, x6 => if x6 > 0 then (if x5.length < 17592186044416 then (if 0 ≤ (wrap64 (x6 - 1)) then (if (wrap64 (x6 - 1)) < (x0.length : Int) then (bB_.l0 k x0 (x5 ++ [x6]) ((ak_ x0 (wrap64 (x6 - 1))).f1)) else (none)) else (none)) else (none)) else (some x5)
def bB_.f (k : Nat) (l0 : List (S78)) (a1 : Int) : Option (List Int) := if 0 ≤ (wrap64 (a1 - 1)) then (if (wrap64 (a1 - 1)) < (l0.length : Int) then (bB_.l0 k l0 (([] : List Int)) ((ak_ l0 (wrap64 (a1 - 1))).f1)) else (none)) else (none)
set_option maxHeartbeats 8000000 in
set_option maxRecDepth 100000 in
theorem bB_.calls (k : Nat) (A0 : Option Addr) (c0 : Nat) (l0 : List (S78)) (a1 : Int) (r : List Int) (w : World) (hr0 : Kd.C k78 w A0 l0.length l0) (hc0 : l0.length ≤ c0) (h : bB_.f k l0 a1 = some r) :
  Calls Try.prog 80 #[.slice A0 l0.length c0, .int .i64 a1] w fun e w' => ∃ v0_ : Value, e = .returned (v0_) ∧ Kd.R (Kd.int .i64) 2 w' w.heap.size (fun _ => True) v0_ r ∧ Below w.heap.size w w' := by
 have HR0 := Aside0.mk hr0
 have HC0 := Aside0.mk hc0
 clear hr0 hc0
 have HB := Aside0.mk (Below.refl w.heap.size w)
 have H : (if 0 ≤ (wrap64 (a1 - 1)) then (if (wrap64 (a1 - 1)) < (l0.length : Int) then (bB_.l0 k l0 (([] : List Int)) ((ak_ l0 (wrap64 (a1 - 1))).f1)) else (none)) else (none)) = some r := h
 clear h
 obtain ⟨y101, hy101⟩ : ∃ y_ : List Int, y_ = (([] : List Int)) := ⟨_, rfl⟩
 replace H : (if 0 ≤ (wrap64 (a1 - 1)) then (if (wrap64 (a1 - 1)) < (l0.length : Int) then (bB_.l0 k l0 y101 ((ak_ l0 (wrap64 (a1 - 1))).f1)) else (none)) else (none)) = some r := by first | (rw [hy101]; with_reducible exact H) | (have H2_ := (Option.bind_some _ _).symm.trans H; rw [hy101]; with_reducible exact H2_) | (have H2_ := (Option.bind_some _ _).symm.trans H; with_reducible exact H2_) | with_reducible exact H | (rw [hy101]; exact H) | exact H
 have Ny101 := Aside0.mk hy101
 clear hy101
 obtain ⟨ji3, hji3⟩ : ∃ j_ : Int, (wrap64 (a1 - 1)) = j_ := ⟨_, rfl⟩
 replace H : (if 0 ≤ (ji3) then (if (ji3) < (l0.length : Int) then (bB_.l0 k l0 y101 ((ak_ l0 (ji3)).f1)) else (none)) else (none)) = some r := by first | (rw [hji3] at H; exact H) | (simp only [hji3] at H ⊢; exact H)
 have hji3w : (IntKind.i64.wrap (a1 - 1)) = ji3 := (i64_w _).trans hji3
 by_cases c4 : 0 ≤ (ji3)
 rotate_left
 ·rw [if_neg c4] at H
  exact absurd H (by simp)
 rw [if_pos c4] at H
 have c4b0 : decide (0 ≤ (ji3)) = true := decide_eq_true c4
 clear c4
 by_cases c5 : (ji3) < (l0.length : Int)
 rotate_left
 ·rw [if_neg c5] at H
  exact absurd H (by simp)
 rw [if_pos c5] at H
 have c5b0 : decide ((ji3) < (l0.length : Int)) = true := decide_eq_true c5
 clear c5
 have H' := Aside0.mk H
 clear H
 go_enter Try.func80, Try.ntmps80
 go_wp2_with (first | ((with_reducible refine au_ (N := 7) rfl ?_); refine Kd.R_lit (Kd.int .i64) _ 2 ?hg (N := 7) ?hd (xs := ([] : List Int)) (inner := []) (ok := fun _ => True) (okp := fun _ => True) ?hr ?hp (fun _ hk => hk) trivial (Below.refl _ _) (Nat.le_refl _) (by simp) ?_; (case hd => rfl); (case hg => rfl); (case hr => (go_simp; try rfl)); (case hp => exact (Reps.none _ _)); intro v102 w6 ho7 hb hg_ hnew_; clear hg_ hnew_; (first | rw [← Ny101.out] at ho7 | (simp only [Int.reduceToNat] at ho7; rw [← Ny101.out] at ho7)); have HO103 := Aside0.mk (Kd.bI_ ho7 (ae_ (bz HB.out))); replace HB := Aside0.mk (ag_ (bz HB.out) hb); clear hb ho7; have p104 : 0 ≤ ((ji3) : Int) := of_decide_eq_true (by assumption); have q104 : (ji3) < (l0.length : Int) := of_decide_eq_true (by assumption); obtain ⟨ad104, A104_3, c104_3, e104, hx104_0, hx104_1, hx104_2, hx104_3, hl104_3, hi104_3⟩ := cL_ HR0.out (ji3) p104 q104; cases e104; replace hx104_0 := (HB.out.cell (bl_ w _ hx104_0)).trans hx104_0; replace hx104_1 := (HB.out.cell (bl_ w _ hx104_1)).trans hx104_1; replace hx104_2 := (HB.out.cell (bl_ w _ hx104_2)).trans hx104_2; replace hx104_3 := (HB.out.cell (bl_ w _ hx104_3)).trans hx104_3; have HR104_3 := Aside0.mk hi104_3; have HC104_3 := Aside0.mk hl104_3; clear hi104_3 hl104_3; replace p104 := eq_true p104; replace q104 := eq_true q104))
 (try simp only [Act.put, lsa_, ls0_, ls1_])
 go_loopg [5, 6] k (fun kq v5 v6 w' => ∃ (x5_1 : List Int) (x6_1 : Int), v6 = .int .i64 x6_1 ∧ Aside0 (bB_.l0 kq l0 x5_1 x6_1 = some r) ∧ Aside0 (kq ≤ k) ∧ Aside0 (Kd.R (Kd.int .i64) 2 w' w.heap.size (fun _ => True) v5 x5_1) ∧ Aside0 (Below w.heap.size w w'))
 case atStart => exact ⟨(y101), ((ak_ l0 (ji3)).f1), (by first | rfl | (simp; done) | (simp only [← hji3] <;> (first | rfl | simp)) | (simp [*]; done)), H', ⟨Nat.le_refl _⟩, ⟨rz HO103.out⟩, ⟨bz HB.out⟩⟩
 case round =>
  clear H'
  obtain ⟨x5_1, x6_1, rfl, HA, HK1, HO_5, HB⟩ := hrel
  cases gk with
  | zero => exact absurd HA.out (by simp [bB_.l0])
  | succ k1 =>
   have H := HA.out
   clear HA
   simp only [bB_.l0] at H
   by_cases c8 : x6_1 > 0
   rotate_left
   ·rw [if_neg c8] at H
    have c8b0 : decide (0 < x6_1) = false := decide_eq_false c8
    clear c8
    obtain rfl := Option.some.inj H
    go_wp2
    go_ret
    exact ⟨_, by first | rfl | (simp [an_, ao_] <;> rfl) | (simp only [← hji3]; first | rfl | (simp [an_, ao_] <;> rfl)) | (simp [*, an_, ao_] <;> rfl), rz HO_5.out, bz HB.out⟩
   rw [if_pos c8] at H
   have c8b0 : decide (0 < x6_1) = true := decide_eq_true c8
   clear c8
   by_cases c9 : x5_1.length < 17592186044416
   rotate_left
   ·rw [if_neg c9] at H
    exact absurd H (by simp)
   rw [if_pos c9] at H
   have LMc9 := Aside0.mk c9
   clear c9
   obtain ⟨y105, hy105⟩ : ∃ y_ : List Int, y_ = (x5_1 ++ [x6_1]) := ⟨_, rfl⟩
   replace H : (if 0 ≤ (wrap64 (x6_1 - 1)) then (if (wrap64 (x6_1 - 1)) < (l0.length : Int) then (bB_.l0 k1 l0 y105 ((ak_ l0 (wrap64 (x6_1 - 1))).f1)) else (none)) else (none)) = some r := by first | (rw [hy105]; with_reducible exact H) | (have H2_ := (Option.bind_some _ _).symm.trans H; rw [hy105]; with_reducible exact H2_) | (have H2_ := (Option.bind_some _ _).symm.trans H; with_reducible exact H2_) | with_reducible exact H | (rw [hy105]; exact H) | exact H
   have Ny105 := Aside0.mk hy105
   clear hy105
   obtain ⟨ji10, hji10⟩ : ∃ j_ : Int, (wrap64 (x6_1 - 1)) = j_ := ⟨_, rfl⟩
   replace H : (if 0 ≤ (ji10) then (if (ji10) < (l0.length : Int) then (bB_.l0 k1 l0 y105 ((ak_ l0 (ji10)).f1)) else (none)) else (none)) = some r := by first | (rw [hji10] at H; exact H) | (simp only [hji10] at H ⊢; exact H)
   have hji10w : (IntKind.i64.wrap (x6_1 - 1)) = ji10 := (i64_w _).trans hji10
   by_cases c11 : 0 ≤ (ji10)
   rotate_left
   ·rw [if_neg c11] at H
    exact absurd H (by simp)
   rw [if_pos c11] at H
   have c11b0 : decide (0 ≤ (ji10)) = true := decide_eq_true c11
   clear c11
   by_cases c12 : (ji10) < (l0.length : Int)
   rotate_left
   ·rw [if_neg c12] at H
    exact absurd H (by simp)
   rw [if_pos c12] at H
   have c12b0 : decide ((ji10) < (l0.length : Int)) = true := decide_eq_true c12
   clear c12
   have H' := Aside0.mk H
   clear H
   go_wp2_with (first | ((with_reducible refine bn_ (b := .append) (xs := #[.tmp 22, .tmp 24]) rfl ?_); at_builtin; refine Kd.ck_ (Kd.int .i64) (w0 := w) w.heap.size rfl (.tmp 22) (.tmp 24) 100 2 (.int .i64 0) 8 rfl Try.underlying100 info2 rfl (by decide) (by omega) u5 x5_1 x6_1 [.int .i64 x6_1] (fun _ => True) (fun _ => False) rfl rfl ?aP (fun _ hk => hk.elim) ?aF ?aO ?aB ?aS ?aL ?_; (case aP => exact rfl); (case aB => exact (bz HB.out)); (case aF => exact (fun _ _ => trivial)); (case aO => exact (rz HO_5.out)); (case aS => exact (ae_ (bz HB.out))); (case aL => have := LMc9.out; omega); intro v106 w13 ho hb hg hat; rw [← Ny105.out] at ho; replace HB := Aside0.mk (hb); have HO107 := Aside0.mk (ho); clear HO_5; clear ho hb hg hat; have p108 : 0 ≤ ((ji10) : Int) := of_decide_eq_true (by assumption); have q108 : (ji10) < (l0.length : Int) := of_decide_eq_true (by assumption); obtain ⟨ad108, A108_3, c108_3, e108, hx108_0, hx108_1, hx108_2, hx108_3, hl108_3, hi108_3⟩ := cL_ HR0.out (ji10) p108 q108; obtain rfl : ad104 = ad108 := (by injection e108); replace hx108_0 := (HB.out.cell (bl_ w _ hx108_0)).trans hx108_0; replace hx108_1 := (HB.out.cell (bl_ w _ hx108_1)).trans hx108_1; replace hx108_2 := (HB.out.cell (bl_ w _ hx108_2)).trans hx108_2; replace hx108_3 := (HB.out.cell (bl_ w _ hx108_3)).trans hx108_3; have HR108_3 := Aside0.mk hi108_3; have HC108_3 := Aside0.mk hl108_3; clear hi108_3 hl108_3; replace p108 := eq_true p108; replace q108 := eq_true q108))
   go_roundg k1
   case measure => have := HK1.out; omega
   case rel => exact ⟨(y105), ((ak_ l0 (ji10)).f1), (by first | rfl | (simp; done) | (simp only [← hji10] <;> (first | rfl | simp)) | (simp [*]; done)), H', ⟨by have := HK1.out; omega⟩, ⟨rz HO107.out⟩, ⟨bz HB.out⟩⟩
def aT_.l0 : Nat → List Int → Int → Int → Int → Option (Int)
 | 0, _, _, _, _ => none
 | k + 1, x0, x1, x7, x8 => if x8 < x7 then (if 0 ≤ x8 then (if x8 < (x0.length : Int) then (if x1 = (rd x0 x8) then (some x8) else (aT_.l0 k x0 x1 x7 (wrap64 (x8 + 1)))) else (none)) else (none)) else (some (-1))
def aT_.f (k : Nat) (l0 : List Int) (a1 : Int) : Option (Int) := aT_.l0 k l0 a1 (l0.length : Int) 0
set_option maxHeartbeats 8000000 in
set_option maxRecDepth 100000 in
theorem aT_.calls (k : Nat) (A0 : Option Addr) (c0 : Nat) (l0 : List Int) (a1 : Int) (r : Int) (w : World) (hr0 : Kd.C (Kd.int .i64) w A0 l0.length l0) (hc0 : l0.length ≤ c0) (h : aT_.f k l0 a1 = some r) :
  Calls Try.prog 99 #[.slice A0 l0.length c0, .int .i64 a1] w fun e w' => e = .returned (.int .i64 r) ∧ av_ w w' := by
 have HR0 := Aside0.mk hr0
 have HC0 := Aside0.mk hc0
 clear hr0 hc0
 have H : (aT_.l0 k l0 a1 (l0.length : Int) 0) = some r := h
 clear h
 have H' := Aside0.mk H
 clear H
 go_enter Try.func99, Try.ntmps99
 go_wp2
 (try simp only [Act.put, lsa_, ls0_, ls1_])
 go_loopg [8] k (fun kq v8 w' => ∃ (x8_1 : Int), v8 = .int .i64 x8_1 ∧ Aside0 (aT_.l0 kq l0 a1 (l0.length : Int) x8_1 = some r) ∧ Aside0 (kq ≤ k) ∧ av_ w w')
 case atStart => exact ⟨(0), (by first | rfl | (simp; done) | (simp [*]; done)), H', ⟨Nat.le_refl _⟩, by repeat (first | exact av_.refl _ | apply av_.step)⟩
 case round =>
  clear H'
  obtain ⟨x8_1, rfl, HA, HK1, ⟨m1, rfl⟩⟩ := hrel
  cases gk with
  | zero => exact absurd HA.out (by simp [aT_.l0])
  | succ k1 =>
   have H := HA.out
   clear HA
   simp only [aT_.l0] at H
   by_cases c3 : x8_1 < (l0.length : Int)
   rotate_left
   ·rw [if_neg c3] at H
    have c3b0 : decide (x8_1 < (l0.length : Int)) = false := decide_eq_false c3
    clear c3
    obtain rfl := Option.some.inj H
    go_wp2
    go_ret
    exact ⟨by first | rfl | (simp; done) | (simp [*]; done), by repeat (first | exact av_.refl _ | apply av_.step)⟩
   rw [if_pos c3] at H
   have c3b0 : decide (x8_1 < (l0.length : Int)) = true := decide_eq_true c3
   clear c3
   by_cases c4 : 0 ≤ x8_1
   rotate_left
   ·rw [if_neg c4] at H
    exact absurd H (by simp)
   rw [if_pos c4] at H
   have c4b0 : decide (0 ≤ x8_1) = true := decide_eq_true c4
   clear c4
   by_cases c5 : x8_1 < (l0.length : Int)
   rotate_left
   ·rw [if_neg c5] at H
    exact absurd H (by simp)
   rw [if_pos c5] at H
   have c5b0 : decide (x8_1 < (l0.length : Int)) = true := decide_eq_true c5
   clear c5
   by_cases c6 : a1 = (rd l0 x8_1)
   rotate_left
   ·rw [if_neg c6] at H
    have c6b0 : (a1 == (rd l0 x8_1)) = false := beq_eq_false_iff_ne.mpr c6
    have c6b1 : (a1 != (rd l0 x8_1)) = true := bne_iff_ne.mpr c6
    have H' := Aside0.mk H
    clear H
    have p101 : 0 ≤ (x8_1 : Int) := of_decide_eq_true (by assumption)
    have q101 : x8_1 < (l0.length : Int) := of_decide_eq_true (by assumption)
    obtain ⟨ad101, e101, hx101_0⟩ := Kd.at_int HR0.out x8_1 p101 q101
    cases e101
    replace p101 := eq_true p101
    replace q101 := eq_true q101
    go_wp2
    go_roundg k1
    case measure => have := HK1.out; omega
    case rel => exact ⟨(wrap64 (x8_1 + 1)), (by first | rfl | (simp; done) | (simp [*]; done)), H', ⟨by have := HK1.out; omega⟩, by repeat (first | exact av_.refl _ | apply av_.step)⟩
   rw [if_pos c6] at H
   have c6b0 : (a1 == (rd l0 x8_1)) = true := beq_iff_eq.mpr c6
   have c6b1 : (a1 != (rd l0 x8_1)) = false := bne_eq_false_iff_eq.mpr c6
   clear c6
   obtain rfl := Option.some.inj H
   have p101 : 0 ≤ (x8_1 : Int) := of_decide_eq_true (by assumption)
   have q101 : x8_1 < (l0.length : Int) := of_decide_eq_true (by assumption)
   obtain ⟨ad101, e101, hx101_0⟩ := Kd.at_int HR0.out x8_1 p101 q101
   cases e101
   replace p101 := eq_true p101
   replace q101 := eq_true q101
   go_wp2
   go_ret
   exact ⟨by first | rfl | (simp; done) | (simp [*]; done), by repeat (first | exact av_.refl _ | apply av_.step)⟩
def bX_.f (k : Nat) (l0 : List Int) (a1 : Int) : Option (Bool) := (aT_.f k l0 a1).bind fun t101 => (some (decide (t101 ≥ 0)))
set_option maxHeartbeats 8000000 in
set_option maxRecDepth 100000 in
theorem bX_.calls (k : Nat) (A0 : Option Addr) (c0 : Nat) (l0 : List Int) (a1 : Int) (r : Bool) (w : World) (hr0 : Kd.C (Kd.int .i64) w A0 l0.length l0) (hc0 : l0.length ≤ c0) (h : bX_.f k l0 a1 = some r) :
  Calls Try.prog 81 #[.slice A0 l0.length c0, .int .i64 a1] w fun e w' => e = .returned (.bool r) ∧ av_ w w' := by
 have HR0 := Aside0.mk hr0
 have HC0 := Aside0.mk hc0
 clear hr0 hc0
 have H : ((aT_.f k l0 a1).bind fun t101 => (some (decide (t101 ≥ 0)))) = some r := h
 clear h
 replace H := Option.bind_eq_some_iff.mp H
 obtain ⟨t101, A30, H⟩ := H
 (try dsimp only at H)
 have A3 := Aside0.mk A30
 clear A30
 obtain rfl := Option.some.inj H
 go_enter Try.func81, Try.ntmps81
 go_wp2_with (first | ((with_reducible refine am_ (f := 99) rfl ?_); refine aX_ (some 7) rfl rfl Try.func99 (by kernel_rfl) rfl #[.slice A0 l0.length c0, .int .i64 a1] rfl (by first | rfl | (simp only [List.map_toArray, List.map_cons, List.map_nil]; first | done | rfl)) ?_; (with_reducible refine (aT_.calls k _ _ l0 a1 t101 _ ?side1 ?side2 A3.out).mono ?_); (case side1 => exact cz HR0.out); (case side2 => exact HC0.out); rintro e w' ⟨rfl, ⟨nd, rfl⟩⟩; refine ⟨_, rfl, ?_⟩))
 go_ret
 exact ⟨by first | rfl | (simp; done) | (simp [*]; done), by repeat (first | exact av_.refl _ | apply av_.step)⟩
def aY_.l0 : Nat → List (S78) → List Int → Int → Option (Int)
 | 0, _, _, _ => none
 | k + 1, x0, x7, x8 => if x8 > 0 then ((bX_.f k x7 x8).bind fun t107 => (if t107 = true then (some x8) else (if 0 ≤ (wrap64 (x8 - 1)) then (if (wrap64 (x8 - 1)) < (x0.length : Int) then (aY_.l0 k x0 x7 ((ak_ x0 (wrap64 (x8 - 1))).f1)) else (none)) else (none)))) else (some 0)
def aY_.f (k : Nat) (l0 : List (S78)) (a1 : Int) (a2 : Int) : Option (Int) := (bB_.f k l0 a2).bind fun t101 => (if t101.length < 17592186044416 then (aY_.l0 k l0 (t101 ++ [a2]) a1) else (none))
set_option maxHeartbeats 8000000 in
set_option maxRecDepth 100000 in
theorem aY_.calls (k : Nat) (A0 : Option Addr) (c0 : Nat) (l0 : List (S78)) (a1 : Int) (a2 : Int) (r : Int) (w : World) (hr0 : Kd.C k78 w A0 l0.length l0) (hc0 : l0.length ≤ c0) (h : aY_.f k l0 a1 a2 = some r) :
  Calls Try.prog 56 #[.slice A0 l0.length c0, .int .i64 a1, .int .i64 a2] w fun e w' => e = .returned (.int .i64 r) ∧ Below w.heap.size w w' := by
 have HR0 := Aside0.mk hr0
 have HC0 := Aside0.mk hc0
 clear hr0 hc0
 have HB := Aside0.mk (Below.refl w.heap.size w)
 have H : ((bB_.f k l0 a2).bind fun t101 => (if t101.length < 17592186044416 then (aY_.l0 k l0 (t101 ++ [a2]) a1) else (none))) = some r := h
 clear h
 replace H := Option.bind_eq_some_iff.mp H
 obtain ⟨t101, A40, H⟩ := H
 (try dsimp only at H)
 have A4 := Aside0.mk A40
 clear A40
 by_cases c5 : t101.length < 17592186044416
 rotate_left
 ·rw [if_neg c5] at H
  exact absurd H (by simp)
 rw [if_pos c5] at H
 have LMc5 := Aside0.mk c5
 clear c5
 obtain ⟨y104, hy104⟩ : ∃ y_ : List Int, y_ = (t101 ++ [a2]) := ⟨_, rfl⟩
 replace H : (aY_.l0 k l0 y104 a1) = some r := by first | (rw [hy104]; with_reducible exact H) | (have H2_ := (Option.bind_some _ _).symm.trans H; rw [hy104]; with_reducible exact H2_) | (have H2_ := (Option.bind_some _ _).symm.trans H; with_reducible exact H2_) | with_reducible exact H | (rw [hy104]; exact H) | exact H
 have Ny104 := Aside0.mk hy104
 clear hy104
 have H' := Aside0.mk H
 clear H
 go_enter Try.func56, Try.ntmps56
 go_wp2_with (first | ((with_reducible refine am_ (f := 80) rfl ?_); refine aX_ (some 11) rfl rfl Try.func80 (by kernel_rfl) rfl #[.slice A0 l0.length c0, .int .i64 a2] rfl (by first | rfl | (simp only [List.map_toArray, List.map_cons, List.map_nil]; first | done | rfl)) ?_; (with_reducible refine (bB_.calls k _ _ l0 a2 t101 _ ?side1 ?side2 A4.out).mono ?_); (case side1 => exact cz HR0.out); (case side2 => exact HC0.out); rintro e w6 ⟨v102, rfl, ho0, hb⟩; refine ⟨_, rfl, ?_⟩; have HO103 := Aside0.mk (Kd.bI_ ho0 (ae_ (bz HB.out))); replace HB := Aside0.mk (ag_ (bz HB.out) hb); (try clear hb); (try clear ho0)) | ((with_reducible refine bn_ (b := .append) (xs := #[.tmp 11, .tmp 13]) rfl ?_); at_builtin; refine Kd.ck_ (Kd.int .i64) (w0 := w) w.heap.size rfl (.tmp 11) (.tmp 13) 100 2 (.int .i64 0) 8 rfl Try.underlying100 info2 rfl (by decide) (by omega) v102 t101 a2 [.int .i64 a2] (fun _ => True) (fun _ => False) rfl rfl ?aP (fun _ hk => hk.elim) ?aF ?aO ?aB ?aS ?aL ?_; (case aP => exact rfl); (case aB => exact (bz HB.out)); (case aF => exact (fun _ _ => trivial)); (case aO => exact (rz HO103.out)); (case aS => exact (ae_ (bz HB.out))); (case aL => have := LMc5.out; omega); intro v105 w7 ho hb hg hat; rw [← Ny104.out] at ho; replace HB := Aside0.mk (hb); have HO106 := Aside0.mk (ho); clear HO103; clear ho hb hg hat))
 (try simp only [Act.put, lsa_, ls0_, ls1_])
 go_loopg [8] k (fun kq v8 w' => ∃ (x8_1 : Int), v8 = .int .i64 x8_1 ∧ Aside0 (aY_.l0 kq l0 y104 x8_1 = some r) ∧ Aside0 (kq ≤ k) ∧ Aside0 (Kd.R (Kd.int .i64) 2 w' w.heap.size (fun _ => True) v105 y104) ∧ Aside0 (Below w.heap.size w w'))
 case atStart => exact ⟨(a1), (by first | rfl | (simp; done) | (simp [*]; done)), H', ⟨Nat.le_refl _⟩, ⟨rz HO106.out⟩, ⟨bz HB.out⟩⟩
 case round =>
  clear H'
  obtain ⟨x8_1, rfl, HA, HK1, HO_7, HB⟩ := hrel
  cases gk with
  | zero => exact absurd HA.out (by simp [aY_.l0])
  | succ k1 =>
   have H := HA.out
   clear HA
   simp only [aY_.l0] at H
   by_cases c8 : x8_1 > 0
   rotate_left
   ·rw [if_neg c8] at H
    have c8b0 : decide (0 < x8_1) = false := decide_eq_false c8
    clear c8
    obtain rfl := Option.some.inj H
    go_wp2
    go_ret
    exact ⟨by first | rfl | (simp [*, an_, ao_] <;> rfl), bz HB.out⟩
   rw [if_pos c8] at H
   have c8b0 : decide (0 < x8_1) = true := decide_eq_true c8
   clear c8
   replace H := Option.bind_eq_some_iff.mp H
   obtain ⟨t107, A90, H⟩ := H
   (try dsimp only at H)
   have A9 := Aside0.mk A90
   clear A90
   have HC10 := Aside0.mk H
   clear H
   obtain ⟨Ao11, co11, eo11⟩ := Kd.bF_ HO_7.out
   subst eo11
   go_upto_if 26 with (first | ((with_reducible refine am_ (f := 81) rfl ?_); refine aX_ (some 26) rfl rfl Try.func81 (by kernel_rfl) rfl #[.slice Ao11 y104.length co11, .int .i64 x8_1] rfl (by first | rfl | (simp only [List.map_toArray, List.map_cons, List.map_nil]; first | done | rfl)) ?_; (with_reducible refine (bX_.calls k1 _ _ y104 x8_1 t107 _ ?side1 ?side2 A9.out).mono ?_); (case side1 => exact cz (Kd.bf_ HO_7.out).2.2); (case side2 => exact (Kd.bf_ HO_7.out).2.1); rintro e w' ⟨rfl, ⟨nd, rfl⟩⟩; refine ⟨_, rfl, ?_⟩; (try (rw [cV_ wr]; generalize hq_ : World.drewN wr _ = wr; have n0_ : Aside0 (Kd.R (Kd.int .i64) 2 wr w.heap.size (fun k_ => True) (.slice Ao11 y104.length co11) y104) := ⟨by rw [← hq_]; exact (rz HO_7.out)⟩; have n1_ : Aside0 (Below w.heap.size w wr) := ⟨by rw [← hq_]; exact (bz HB.out)⟩; clear HO_7 HB hq_; have HO_7 := n0_; have HB := n1_; clear n0_ n1_))))
   (try simp only [Act.put, lsa_, ls0_, ls1_])
   have H := HC10.out
   clear HC10
   by_cases c12 : t107 = true
   rotate_left
   ·replace c12 := Bool.eq_false_iff.mpr c12
    subst c12
    have H1 : (if 0 ≤ (wrap64 (x8_1 - 1)) then (if (wrap64 (x8_1 - 1)) < (l0.length : Int) then (aY_.l0 k1 l0 y104 ((ak_ l0 (wrap64 (x8_1 - 1))).f1)) else (none)) else (none)) = some r := by rw [if_neg (show ¬ (false = true) by decide)] at H; exact H
    clear H
    have H := H1
    clear H1
    obtain ⟨ji13, hji13⟩ : ∃ j_ : Int, (wrap64 (x8_1 - 1)) = j_ := ⟨_, rfl⟩
    replace H : (if 0 ≤ (ji13) then (if (ji13) < (l0.length : Int) then (aY_.l0 k1 l0 y104 ((ak_ l0 (ji13)).f1)) else (none)) else (none)) = some r := by first | (rw [hji13] at H; exact H) | (simp only [hji13] at H ⊢; exact H)
    have hji13w : (IntKind.i64.wrap (x8_1 - 1)) = ji13 := (i64_w _).trans hji13
    by_cases c14 : 0 ≤ (ji13)
    rotate_left
    ·rw [if_neg c14] at H
     exact absurd H (by simp)
    rw [if_pos c14] at H
    have c14b0 : decide (0 ≤ (ji13)) = true := decide_eq_true c14
    clear c14
    (first | rw [c14b0] | (simp only [i64_w, i32_w]; rw [c14b0]) | (simp only [c14b1, Bool.not_true, Bool.not_false]) | (simp only [c14b0, Bool.not_true, Bool.not_false]) | skip)
    by_cases c15 : (ji13) < (l0.length : Int)
    rotate_left
    ·rw [if_neg c15] at H
     exact absurd H (by simp)
    rw [if_pos c15] at H
    have c15b0 : decide ((ji13) < (l0.length : Int)) = true := decide_eq_true c15
    clear c15
    have H' := Aside0.mk H
    clear H
    have p108 : 0 ≤ ((ji13) : Int) := of_decide_eq_true (by assumption)
    have q108 : (ji13) < (l0.length : Int) := of_decide_eq_true (by assumption)
    obtain ⟨ad108, A108_3, c108_3, e108, hx108_0, hx108_1, hx108_2, hx108_3, hl108_3, hi108_3⟩ := cL_ HR0.out (ji13) p108 q108
    cases e108
    replace hx108_0 := (HB.out.cell (bl_ w _ hx108_0)).trans hx108_0
    replace hx108_1 := (HB.out.cell (bl_ w _ hx108_1)).trans hx108_1
    replace hx108_2 := (HB.out.cell (bl_ w _ hx108_2)).trans hx108_2
    replace hx108_3 := (HB.out.cell (bl_ w _ hx108_3)).trans hx108_3
    have HR108_3 := Aside0.mk hi108_3
    have HC108_3 := Aside0.mk hl108_3
    clear hi108_3 hl108_3
    replace p108 := eq_true p108
    replace q108 := eq_true q108
    go_wp2
    go_roundg k1
    case measure => have := HK1.out; omega
    case rel => exact ⟨((ak_ l0 (ji13)).f1), (by first | rfl | (simp; done) | (simp only [← hji13] <;> (first | rfl | simp)) | (simp [*]; done)), H', ⟨by have := HK1.out; omega⟩, ⟨rz HO_7.out⟩, ⟨bz HB.out⟩⟩
   subst c12
   have H1 : (some x8_1) = some r := by rw [if_pos rfl] at H; exact H
   clear H
   have H := H1
   clear H1
   obtain rfl := Option.some.inj H
   go_wp2
   go_ret
   exact ⟨by first | rfl | (simp [*, an_, ao_] <;> rfl), bz HB.out⟩
def cM_.f (l0 : List (S78)) : Option ((List (S78))) := (some (([] : List (S78)) : List (S78))).bind fun y101 => (if y101.length + l0.length < 2513169434916 then (some (y101 ++ l0)) else (none))
set_option maxHeartbeats 8000000 in
set_option maxRecDepth 100000 in
theorem cM_.calls (P0_ : Nat → Prop) (A0 : Option Addr) (c0 : Nat) (l0 : List (S78)) (r : List (S78)) (w : World) (hs0 : Kd.V k78 78 w w.heap.size (fun k_ => P0_ k_) (.slice A0 l0.length c0) l0) (h : cM_.f l0 = some r) :
  Calls Try.prog 82 #[.slice A0 l0.length c0] w fun e w' => ∃ v0_ : Value, e = .returned (v0_) ∧ Kd.N k78 78 w' w.heap.size (fun k_ => (P0_ k_ ∨ w.heap.size ≤ k_)) v0_ r ∧ Below w.heap.size w w' := by
 have HO0 := Aside0.mk (show Kd.V k78 78 w w.heap.size (fun k_ => (P0_ k_ ∨ w.heap.size ≤ k_)) (.slice A0 l0.length c0) l0 from Kd.aW_ hs0 (fun k_ hk => .inl hk))
 have HB := Aside0.mk (Below.refl w.heap.size w)
 have H : ((some (([] : List (S78)) : List (S78))).bind fun y101 => (if y101.length + l0.length < 2513169434916 then (some (y101 ++ l0)) else (none))) = some r := h
 clear h
 obtain ⟨y101, hy101⟩ : ∃ y_ : List (S78), y_ = (([] : List (S78))) := ⟨_, rfl⟩
 replace H : (if y101.length + l0.length < 2513169434916 then (some (y101 ++ l0)) else (none)) = some r := by first | (rw [hy101]; with_reducible exact H) | (have H2_ := (Option.bind_some _ _).symm.trans H; rw [hy101]; with_reducible exact H2_) | (have H2_ := (Option.bind_some _ _).symm.trans H; with_reducible exact H2_) | with_reducible exact H | (rw [hy101]; exact H) | exact H
 have Ny101 := Aside0.mk hy101
 clear hy101
 by_cases c2 : y101.length + l0.length < 2513169434916
 rotate_left
 ·rw [if_neg c2] at H
  exact absurd H (by simp)
 rw [if_pos c2] at H
 have LMc2 := Aside0.mk c2
 clear c2
 obtain ⟨y104, hy104⟩ : ∃ y_ : List (S78), y_ = (y101 ++ l0) := ⟨_, rfl⟩
 replace H : (some y104) = some r := by first | (rw [hy104]; with_reducible exact H) | (have H2_ := (Option.bind_some _ _).symm.trans H; rw [hy104]; with_reducible exact H2_) | (have H2_ := (Option.bind_some _ _).symm.trans H; with_reducible exact H2_) | with_reducible exact H | (rw [hy104]; exact H) | exact H
 have Ny104 := Aside0.mk hy104
 clear hy104
 obtain rfl := Option.some.inj H
 have qn_ : ∀ (w : World) (a : Option Addr) (n c n' c' : Nat), (binOp .eql 38 (.slice a n c) (.slice none n' c')).run Try.prog w = .ok (.bool a.isNone) w := fun w a n c n' c' => Lib.run_eql_slice_nil w _ _ a n c n' c' Try.underlying38
 rcases A0 with _ | A0s
 ·have hl0_ : l0 = [] := by
   rcases l0 with _ | ⟨x_, l_⟩
   ·rfl
   ·obtain ⟨ad_, h_, _⟩ := (Kd.bb_ HO0.out).2.2.2.2 (by simp)
    cases h_
  subst hl0_
  have hy_ : y104 = [] := by rw [Ny104.out, Ny101.out]; rfl
  go_enter Try.func82, Try.ntmps82
  go_wp2
  go_ret
  try rw [hy_]
  exact ⟨_, rfl, Kd.N_nil _ _ _ _ _, Below.refl _ _⟩
 go_enter Try.func82, Try.ntmps82
 go_wp2_with (first | ((with_reducible refine au_ (N := 5) rfl ?_); refine Kd.N_lit k78 _ 78 ?hg (N' := 5) ?hd (xs := ([] : List (S78))) (inner := []) (ok := (fun k_ => (P0_ k_ ∨ w.heap.size ≤ k_))) (okp := (fun k_ => (P0_ k_ ∨ w.heap.size ≤ k_))) ?hr ?hp (fun _ hk => hk) ((show ∀ k_, w.heap.size ≤ k_ → (fun k_ => (P0_ k_ ∨ w.heap.size ≤ k_)) k_ from fun k_ hk => (.inr (Nat.le_trans (ae_ (bz HB.out)) hk))) _ (Nat.le_refl _)) (Below.refl _ _) (Nat.le_refl _) (by simp) ?_; (case hd => rfl); (case hg => rfl); (case hr => (go_simp; try rfl)); (case hp => exact (Reps.none _ _)); intro v102 w3 ho4 hb hg_ hnew_; clear hg_ hnew_; (first | rw [← Ny101.out] at ho4 | (simp only [Int.reduceToNat] at ho4; rw [← Ny101.out] at ho4)); replace HO0 := Aside0.mk (Kd.bP_ (vz HO0.out) (Kd.N_base ho4) hb); have HO103 := Aside0.mk (Kd.dt_ ho4 (ae_ (bz HB.out))); replace HB := Aside0.mk (ag_ (bz HB.out) hb); clear hb ho4) | ((with_reducible refine bn_ (b := .append) (xs := #[.tmp 5, .tmp 6]) rfl ?_); at_builtin; refine Kd.N_append_rows k78 (w0 := w) w.heap.size rfl (.tmp 5) (.tmp 6) 38 78 (.agg #[(.int .i64 0), (.int .i64 0), (.string ⟨#[]⟩), (.slice none 0 0)]) 56 rfl Try.underlying38 info78 rfl (by decide) (by omega) v102 y101 l0 _ _ _ (fun k_ => (P0_ k_ ∨ w.heap.size ≤ k_)) (fun k_ => ((fun k_ => (P0_ k_ ∨ w.heap.size ≤ k_))) k_ ∧ some k_ ≠ (v102 : Value).ownBlock) rfl rfl ?aO ?aR (fun _ hk => hk) ?aF ?aB ?aS ?aL ?_; (case aR => exact (by skip; exact Kd.V_F (Kd.aW_ (ok' := (fun k_ => ((fun k_ => (P0_ k_ ∨ w.heap.size ≤ k_))) k_ ∧ some k_ ≠ (v102 : Value).ownBlock)) (HO0.out) (fun k_ hk => ⟨hk.1, hk.2⟩)))); (case aB => exact (bz HB.out)); (case aF => exact (fun k_ hk => (.inr (Nat.le_trans (ae_ (bz HB.out)) hk)))); (case aO => exact (nz HO103.out)); (case aS => exact (ae_ (bz HB.out))); (case aL => have := LMc2.out; omega); intro v105 w5 ho hb hg hat; rw [← Ny104.out] at ho; replace HO0 := Aside0.mk (Kd.dp_ (ok := (fun k_ => (P0_ k_ ∨ w.heap.size ≤ k_))) (vz HO0.out) hg hat); replace HB := Aside0.mk (hb); have HO106 := Aside0.mk (ho); clear HO103; clear ho hb hg hat))
 go_ret
 exact ⟨_, by first | rfl | (simp [*, an_, ao_] <;> rfl), nz HO106.out, bz HB.out⟩
def impl_Entry.f (l0 : List S63) : Option (List S63) := if l0.length < 2932031007402 then some l0 else none
set_option maxHeartbeats 8000000 in
set_option maxRecDepth 100000 in
theorem impl_Entry.calls (A0 : Option Addr) (c0 : Nat) (l0 : List S63) (r : List S63) (w : World) (hr0 : Kd.C k63 w A0 l0.length l0) (hc0 : l0.length ≤ c0) (h : impl_Entry.f l0 = some r) :
  Calls Try.prog 83 #[.slice A0 l0.length c0] w fun e w' => ∃ v0_ : Value, e = .returned (v0_) ∧ Kd.R k63 63 w' w.heap.size (fun _ => True) v0_ r ∧ Below w.heap.size w w' := by
 have q22 : ∀ (w : World) (a : Option Addr) (n c n' c' : Nat), (binOp .eql 27 (.slice a n c) (.slice none n' c')).run Try.prog w = .ok (.bool a.isNone) w := fun w a n c n' c' => Lib.run_eql_slice_nil w _ _ a n c n' c' Try.underlying27
 unfold impl_Entry.f at h
 split at h
 ·rename_i hl
  obtain rfl := Option.some.inj h
  have hl' := Aside0.mk hl
  clear hl h
  rcases A0 with _ | ⟨ab, ao, asp⟩
  ·have h0 : l0 = [] := by
    rcases l0 with _ | ⟨x, l⟩
    ·rfl
    ·obtain ⟨ad, h, _⟩ := hr0.2.2 (by simp)
     cases h
   subst h0
   go_enter Try.func83, Try.ntmps83
   go_wp2
   go_ret
   exact ⟨_, rfl, Kd.R_nil _ _ _ _ _, Below.refl _ _⟩
  ·have HR0 := Aside0.mk hr0
   clear hr0
   go_enter Try.func83, Try.ntmps83
   go_wp2_with (first | ((with_reducible refine au_ (N := 5) rfl ?_); refine Kd.R_lit k63 _ 63 ?hg (N := 5) ?hd (xs := ([] : List S63)) (inner := []) (ok := fun _ => True) (okp := fun _ => True) ?hr ?hp (fun _ hk => hk) trivial (Below.refl _ _) (Nat.le_refl _) (by simp) ?_; (case hd => rfl); (case hg => rfl); (case hr => (go_simp; try rfl)); (case hp => exact (Reps.none _ _)); intro v1 w1 ho1 hb1 _ _; have HB1 := Aside0.mk hb1; have HO1 := Aside0.mk ho1; clear hb1 ho1) | ((with_reducible refine bn_ (b := .append) (xs := #[.tmp 5, .tmp 6]) rfl ?_); at_builtin; refine Kd.da_ k63 (w0 := w) w.heap.size rfl (.tmp 5) (.tmp 6) 27 63 (.agg #[(.string ⟨#[]⟩), (.string ⟨#[]⟩), (.int .i64 0), (.int .i64 0)]) 48 rfl Try.underlying27 dk_ rfl (by decide) (by omega) v1 [] l0 _ _ _ (fun _ => True) (fun _ => False) rfl rfl HO1.out (Kd.bE_ HR0.out HB1.out) (fun _ _ h => h) (fun _ h => h.elim) (fun _ _ => trivial) HB1.out HB1.out.size (by have := hl'.out; simp only [List.length_nil]; omega) ?_; intro v2 w2 ho2 hb2 _ _; have HO2 := Aside0.mk ho2; have HB2 := Aside0.mk hb2; clear ho2 hb2))
   go_ret
   exact ⟨_, rfl, by simpa using HO2.out, HB2.out⟩
 ·cases h
def bx_.l0 : Nat → List (S78) → List (S78) → Int → Int → Option ((List (S78)) × Int)
 | 0, _, _, _, _ => none
 | k + 1, x10, x27, x28, x29 => if x29 < x28 then (if 0 ≤ x29 then (if x29 < (x27.length : Int) then ((impl_Entry.f ((ak_ x27 x29).f3)).bind fun t112 => (if x10.length < 2513169434916 then (bx_.l0 k (x10 ++ [(⟨(ak_ x27 x29).f0, (ak_ x27 x29).f1, (ak_ x27 x29).f2, t112⟩ : S78)]) x27 x28 (wrap64 (x29 + 1))) else (none))) else (none)) else (none)) else (some (x10, 0))
def bx_.f (k : Nat) (l0 : List (S78)) (a1 : Int) (a2 : ByteArray) (l3 : List (S63)) : Option ((List (S78)) × Int) := if (l0.length : Int) = 16 then (some (([] : List (S78)), 5)) else ((cM_.f l0).bind fun t104 => (if t104.length < 2513169434916 then ((some (t104 ++ [(⟨wrap64 ((l0.length : Int) + 1), a1, a2, l3⟩ : S78)] : List (S78))).bind fun y107 => (bx_.l0 k (([] : List (S78))) y107 (y107.length : Int) 0)) else (none)))
set_option maxHeartbeats 8000000 in
set_option maxRecDepth 100000 in
theorem bx_.calls (k : Nat) (P0_ : Nat → Prop) (A0 : Option Addr) (c0 : Nat) (l0 : List (S78)) (a1 : Int) (a2 : ByteArray) (P3_ : Nat → Prop) (A3 : Option Addr) (c3 : Nat) (l3 : List (S63)) (r1 : List (S78)) (r2 : Int) (w : World) (hs0 : Kd.V k78 78 w w.heap.size (fun k_ => P0_ k_) (.slice A0 l0.length c0) l0) (hs3 : Kd.V k63 63 w w.heap.size (fun k_ => P3_ k_) (.slice A3 l3.length c3) l3) (h : bx_.f k l0 a1 a2 l3 = some (r1, r2)) :
  Calls Try.prog 57 #[.slice A0 l0.length c0, .int .i64 a1, .string a2, .slice A3 l3.length c3] w fun e w' => ∃ v0_ : Value, e = .returned (.tuple #[v0_, .int .i64 r2]) ∧ Kd.S k78 78 w' w.heap.size (fun k_ => (w.heap.size ≤ k_)) v0_ r1 ∧ Below w.heap.size w w' := by
 have hu78 := Try.underlying78
 have HO0 := Aside0.mk (show Kd.V k78 78 w w.heap.size (fun k_ => ((P0_ k_ ∨ P3_ k_) ∨ w.heap.size ≤ k_)) (.slice A0 l0.length c0) l0 from Kd.aW_ hs0 (fun k_ hk => .inl (.inl hk)))
 have HO3 := Aside0.mk (show Kd.V k63 63 w w.heap.size (fun k_ => ((P0_ k_ ∨ P3_ k_) ∨ w.heap.size ≤ k_)) (.slice A3 l3.length c3) l3 from Kd.aW_ hs3 (fun k_ hk => .inl (.inr hk)))
 have HB := Aside0.mk (Below.refl w.heap.size w)
 have H : (if (l0.length : Int) = 16 then (some (([] : List (S78)), 5)) else ((cM_.f l0).bind fun t104 => (if t104.length < 2513169434916 then ((some (t104 ++ [(⟨wrap64 ((l0.length : Int) + 1), a1, a2, l3⟩ : S78)] : List (S78))).bind fun y107 => (bx_.l0 k (([] : List (S78))) y107 (y107.length : Int) 0)) else (none)))) = some (r1, r2) := h
 clear h
 by_cases c5 : (l0.length : Int) = 16
 rotate_left
 ·rw [if_neg c5] at H
  have c5b0 : ((l0.length : Int) == 16) = false := beq_eq_false_iff_ne.mpr c5
  have c5b1 : ((l0.length : Int) != 16) = true := bne_iff_ne.mpr c5
  obtain ⟨y101, hy101⟩ : ∃ y_ : List (S78), y_ = (([] : List (S78))) := ⟨_, rfl⟩
  replace H : ((cM_.f l0).bind fun t104 => (if t104.length < 2513169434916 then ((some (t104 ++ [(⟨wrap64 ((l0.length : Int) + 1), a1, a2, l3⟩ : S78)] : List (S78))).bind fun y107 => (bx_.l0 k y101 y107 (y107.length : Int) 0)) else (none))) = some (r1, r2) := by first | (rw [hy101]; with_reducible exact H) | (have H2_ := (Option.bind_some _ _).symm.trans H; rw [hy101]; with_reducible exact H2_) | (have H2_ := (Option.bind_some _ _).symm.trans H; with_reducible exact H2_) | with_reducible exact H | (rw [hy101]; exact H) | exact H
  have Ny101 := Aside0.mk hy101
  clear hy101
  replace H := Option.bind_eq_some_iff.mp H
  obtain ⟨t104, A60, H⟩ := H
  (try dsimp only at H)
  have A6 := Aside0.mk A60
  clear A60
  by_cases c7 : t104.length < 2513169434916
  rotate_left
  ·rw [if_neg c7] at H
   exact absurd H (by simp)
  rw [if_pos c7] at H
  have LMc7 := Aside0.mk c7
  clear c7
  obtain ⟨y107, hy107⟩ : ∃ y_ : List (S78), y_ = (t104 ++ [(⟨wrap64 ((l0.length : Int) + 1), a1, a2, l3⟩ : S78)]) := ⟨_, rfl⟩
  replace H : (bx_.l0 k y101 y107 (y107.length : Int) 0) = some (r1, r2) := by first | (rw [hy107]; with_reducible exact H) | (have H2_ := (Option.bind_some _ _).symm.trans H; rw [hy107]; with_reducible exact H2_) | (have H2_ := (Option.bind_some _ _).symm.trans H; with_reducible exact H2_) | with_reducible exact H | (rw [hy107]; exact H) | exact H
  have Ny107 := Aside0.mk hy107
  clear hy107
  have H' := Aside0.mk H
  clear H
  go_enter Try.func57, Try.ntmps57
  go_wp2_with (first | ((with_reducible refine au_ (N := 16) rfl ?_); refine Kd.S_lit k78 _ 78 ?hg (N := 16) ?hd (xs := ([] : List (S78))) (inner := []) (ok := fun _ => True) (okp := fun _ => True) ?hr ?hp (fun _ hk => hk) trivial (Below.refl _ _) (Nat.le_refl _) (by simp) ?_; (case hd => rfl); (case hg => rfl); (case hr => (go_simp; try rfl)); (case hp => exact (Reps.none _ _)); intro v102 w8 ho9 hb hg_ hnew_; clear hg_ hnew_; (first | rw [← Ny101.out] at ho9 | (simp only [Int.reduceToNat] at ho9; rw [← Ny101.out] at ho9)); replace HO0 := Aside0.mk (Kd.bP_ (vz HO0.out) (Kd.dr_ ho9) hb); replace HO3 := Aside0.mk (Kd.bP_ (vz HO3.out) (Kd.dr_ ho9) hb); have HO103 := Aside0.mk (Kd.S_lower (Kd.S_newM (M := fun k_ => (w.heap.size ≤ k_)) ho9 (ae_ (bz HB.out)) (fun k_ h_ => h_)) (ae_ (bz HB.out))); replace HB := Aside0.mk (ag_ (bz HB.out) hb); clear hb ho9) | ((with_reducible refine am_ (f := 82) rfl ?_); refine aX_ (some 18) rfl rfl Try.func82 (by kernel_rfl) rfl #[.slice A0 l0.length c0] rfl (by first | rfl | (simp only [List.map_toArray, List.map_cons, List.map_nil]; first | done | rfl)) ?_; (with_reducible refine (cM_.calls (fun k_ => (((P0_ k_ ∨ P3_ k_) ∨ w.heap.size ≤ k_) ∧ some k_ ≠ (v102 : Value).ownBlock)) _ _ l0 t104 _ ?side1 A6.out).mono ?_); (case side1 => exact HO0.out); rintro e w10 ⟨v105, rfl, ho0, hb⟩; refine ⟨_, rfl, ?_⟩; replace HO0 := Aside0.mk (Kd.bP_ (vz HO0.out) (Kd.N_base ho0) hb); replace HO3 := Aside0.mk (Kd.bP_ (vz HO3.out) (Kd.N_base ho0) hb); have HO106 := Aside0.mk (Kd.dt_ (Kd.cs_ (ok' := fun k_ => ((P0_ k_ ∨ P3_ k_) ∨ w.heap.size ≤ k_) ∧ some k_ ≠ (v102 : Value).ownBlock) ho0 (fun k_ hk_ => ⟨Or.elim hk_ (fun hs_ => hs_.1) (fun hn_ => (.inr (Nat.le_trans (ae_ (bz HB.out)) hn_))), Or.elim hk_ (fun hs_ => hs_.2) (fun hn_ => (Kd.fresh' (Kd.S_lt (sz HO103.out)) k_ hn_))⟩)) (ae_ (bz HB.out))); replace HO103 := Aside0.mk (Kd.S_elder' (sz HO103.out) (Kd.N_base ho0) hb); replace HB := Aside0.mk (ag_ (bz HB.out) hb); (try clear hb); (try clear ho0)) | ((with_reducible refine bn_ (b := .append) (xs := #[.tmp 18, .tmp 26]) rfl ?_); at_builtin; refine Kd.N_append k78 (w0 := w) w.heap.size rfl (.tmp 18) (.tmp 26) 38 78 (.agg #[(.int .i64 0), (.int .i64 0), (.string ⟨#[]⟩), (.slice none 0 0)]) 56 rfl Try.underlying38 info78 rfl (by decide) (by omega) v105 t104 (⟨wrap64 ((l0.length : Int) + 1), a1, a2, l3⟩ : S78) [.int .i64 (wrap64 ((l0.length : Int) + 1)), .int .i64 a1, .string a2, .slice A3 l3.length c3] (fun k_ => ((P0_ k_ ∨ P3_ k_) ∨ w.heap.size ≤ k_) ∧ some k_ ≠ (v102 : Value).ownBlock) (fun k_ => ((fun k_ => ((P0_ k_ ∨ P3_ k_) ∨ w.heap.size ≤ k_) ∧ some k_ ≠ (v102 : Value).ownBlock)) k_ ∧ some k_ ≠ (v105 : Value).ownBlock) rfl rfl ?aP (fun _ hk => hk) ?aF ?aO ?aB ?aS ?aL ?_; (case aP => exact (k78_mkF _ _ (⟨wrap64 ((l0.length : Int) + 1), a1, a2, l3⟩ : S78) (Kd.bb_ (Kd.aW_ (ok' := (fun k_ => ((fun k_ => ((P0_ k_ ∨ P3_ k_) ∨ w.heap.size ≤ k_) ∧ some k_ ≠ (v102 : Value).ownBlock)) k_ ∧ some k_ ≠ (v105 : Value).ownBlock)) (HO3.out) (fun k_ hk => ⟨⟨hk.1.1, hk.1.2⟩, hk.2⟩))).2.1 (Kd.V_F (Kd.aW_ (ok' := (fun k_ => ((fun k_ => ((P0_ k_ ∨ P3_ k_) ∨ w.heap.size ≤ k_) ∧ some k_ ≠ (v102 : Value).ownBlock)) k_ ∧ some k_ ≠ (v105 : Value).ownBlock)) (HO3.out) (fun k_ hk => ⟨⟨hk.1.1, hk.1.2⟩, hk.2⟩))))); (case aB => exact (bz HB.out)); (case aF => exact (fun k_ hk => ⟨(.inr (Nat.le_trans (ae_ (bz HB.out)) hk)), Kd.fresh' (Kd.S_lt (sz HO103.out)) k_ hk⟩)); (case aO => exact (nz HO106.out)); (case aS => exact (ae_ (bz HB.out))); (case aL => have := LMc7.out; omega); intro v108 w11 ho hb hg hat; rw [← Ny107.out] at ho; replace HO0 := Aside0.mk (Kd.dp_ (ok := (fun k_ => ((P0_ k_ ∨ P3_ k_) ∨ w.heap.size ≤ k_) ∧ some k_ ≠ (v102 : Value).ownBlock)) (vz HO0.out) hg hat); replace HO3 := Aside0.mk (Kd.dp_ (ok := (fun k_ => ((P0_ k_ ∨ P3_ k_) ∨ w.heap.size ≤ k_) ∧ some k_ ≠ (v102 : Value).ownBlock)) (vz HO3.out) hg hat); replace HO103 := Aside0.mk (Kd.S_after (ok := (fun k_ => (w.heap.size ≤ k_))) (sz (Kd.bY_ HO103.out (fun _ hk => ⟨hk.1.1, hk.2⟩))) hg hat); replace HB := Aside0.mk (hb); have HO109 := Aside0.mk (ho); clear HO106; clear ho hb hg hat; obtain ⟨Ao12, co12, eo12⟩ := Kd.dz_ HO109.out; subst eo12))
  (try simp only [Act.put, lsa_, ls0_, ls1_])
  go_loopg [10, 29] k (fun kq v10 v29 w' => ∃ (x10_1 : List (S78)) (x29_1 : Int), v29 = .int .i64 x29_1 ∧ Aside0 (bx_.l0 kq x10_1 y107 (y107.length : Int) x29_1 = some (r1, r2)) ∧ Aside0 (kq ≤ k) ∧ Aside0 (Kd.S k78 78 w' w.heap.size (fun k_ => (w.heap.size ≤ k_) ∧ some k_ ≠ ((.slice Ao12 y107.length co12) : Value).ownBlock) v10 x10_1) ∧ Aside0 (Kd.N k78 78 w' w.heap.size (fun k_ => ((P0_ k_ ∨ P3_ k_) ∨ w.heap.size ≤ k_) ∧ some k_ ≠ (v10 : Value).ownBlock) (.slice Ao12 y107.length co12) y107) ∧ Aside0 (Below w.heap.size w w'))
  case atStart => exact ⟨(y101), (0), (by first | rfl | (simp; done) | (simp [*]; done)), H', ⟨Nat.le_refl _⟩, ⟨sz HO103.out⟩, ⟨nz HO109.out⟩, ⟨bz HB.out⟩⟩
  case round =>
   clear H'
   obtain ⟨x10_1, x29_1, rfl, HA, HK1, HO_10, HO_27, HB⟩ := hrel
   cases gk with
   | zero => exact absurd HA.out (by simp [bx_.l0])
   | succ k1 =>
    have H := HA.out
    clear HA
    simp only [bx_.l0] at H
    by_cases c13 : x29_1 < (y107.length : Int)
    rotate_left
    ·rw [if_neg c13] at H
     have c13b0 : decide (x29_1 < (y107.length : Int)) = false := decide_eq_false c13
     clear c13
     simp only [Option.some.injEq, Prod.mk.injEq] at H
     obtain ⟨rfl, rfl⟩ := H
     go_wp2
     go_ret2
     exact ⟨_, by first | rfl | (simp [*, an_, ao_] <;> rfl), sz (Kd.bY_ HO_10.out (fun _ hk => hk.1)), bz HB.out⟩
    rw [if_pos c13] at H
    have c13b0 : decide (x29_1 < (y107.length : Int)) = true := decide_eq_true c13
    clear c13
    by_cases c14 : 0 ≤ x29_1
    rotate_left
    ·rw [if_neg c14] at H
     exact absurd H (by simp)
    rw [if_pos c14] at H
    have c14b0 : decide (0 ≤ x29_1) = true := decide_eq_true c14
    clear c14
    by_cases c15 : x29_1 < (y107.length : Int)
    rotate_left
    ·rw [if_neg c15] at H
     exact absurd H (by simp)
    rw [if_pos c15] at H
    have c15b0 : decide (x29_1 < (y107.length : Int)) = true := decide_eq_true c15
    clear c15
    replace H := Option.bind_eq_some_iff.mp H
    obtain ⟨t112, A160, H⟩ := H
    (try dsimp only at H)
    have A16 := Aside0.mk A160
    clear A160
    by_cases c17 : x10_1.length < 2513169434916
    rotate_left
    ·rw [if_neg c17] at H
     exact absurd H (by simp)
    rw [if_pos c17] at H
    have LMc17 := Aside0.mk c17
    clear c17
    obtain ⟨y115, hy115⟩ : ∃ y_ : List (S78), y_ = (x10_1 ++ [(⟨(ak_ y107 x29_1).f0, (ak_ y107 x29_1).f1, (ak_ y107 x29_1).f2, t112⟩ : S78)]) := ⟨_, rfl⟩
    replace H : (bx_.l0 k1 y115 y107 (y107.length : Int) (wrap64 (x29_1 + 1))) = some (r1, r2) := by first | (rw [hy115]; with_reducible exact H) | (have H2_ := (Option.bind_some _ _).symm.trans H; rw [hy115]; with_reducible exact H2_) | (have H2_ := (Option.bind_some _ _).symm.trans H; with_reducible exact H2_) | with_reducible exact H | (rw [hy115]; exact H) | exact H
    have Ny115 := Aside0.mk hy115
    clear hy115
    have H' := Aside0.mk H
    clear H
    have p110 : 0 ≤ (x29_1 : Int) := of_decide_eq_true (by assumption)
    have q110 : x29_1 < (y107.length : Int) := of_decide_eq_true (by assumption)
    obtain ⟨ad110, A110_3, c110_3, e110, hx110_0, hx110_1, hx110_2, hx110_3, hl110_3, hi110_3⟩ := cL_ (Kd.cp_ HO_27.out).2.2 x29_1 p110 q110
    cases e110
    obtain ⟨ce110, hce110, hMe110, hcc110⟩ := Kd.N_get HO_27.out z78 x29_1 p110 (by first | exact q110 | exact of_decide_eq_true (by assumption) | (have e_ := (Kd.cp_ HO_27.out).1; omega))
    obtain ⟨ua110_3, uc110_3, rfl, ul110_3, ge110_3⟩ := k78_openF hMe110
    have hv110_3 := hcc110 3 _ rfl
    rw [cy_ _ _ 3 (by omega)] at hv110_3
    replace hv110_3 := Option.some.inj (hv110_3.symm.trans hx110_3)
    injection hv110_3 with hva_ hvn_ hvc_
    rw [hva_] at ge110_3
    rw [hvc_] at ul110_3
    have HL110_3 := Aside0.mk (show Kd.V k63 63 _ w.heap.size _ _ ((ak_ y107 x29_1).f3) from Kd.V_mk ul110_3 ge110_3)
    clear hva_ hvn_ hvc_ ge110_3 ul110_3
    clear hcc110 hce110
    have HR110_3 := Aside0.mk hi110_3
    have HC110_3 := Aside0.mk hl110_3
    clear hi110_3 hl110_3
    replace p110 := eq_true p110
    replace q110 := eq_true q110
    go_wp2_with (first | ((with_reducible refine au_ (N := 12) rfl ?_); refine aQ_ ?hg (N := 12) ?hd (cs := #[.int .i64 0, .int .i64 0, .string (⟨#[]⟩ : ByteArray), .slice none 0 0]) (t := 78) ?hr ?_; (case hd => rfl); (case hg => rfl); (case hr => (go_simp; try rfl)); intro gb111 hg w18 hbox hb; replace HO_10 := Aside0.mk (Kd.ct_ (Kd.S_elderB (sz HO_10.out) gb111 (Nat.le_of_eq hg.symm)) hb); replace HO_27 := Aside0.mk (Kd.dC_ (Kd.N_elderB (nz HO_27.out) gb111 (Nat.le_of_eq hg.symm)) hb); replace HL110_3 := Aside0.mk (Kd.aS_ (Kd.ca_ (vz HL110_3.out) gb111 (Nat.le_of_eq hg.symm)) hb); replace HR110_3 := Aside0.mk (Kd.bE_ (by repeat (first | (with_reducible exact HR110_3.out) | (with_reducible first | refine Kd.C_alloc ?_ _ | refine Kd.C_drewN ?_ _ | refine Kd.C_drew ?_) | exact HR110_3.out)) hb); have BK111 := Aside0.mk (hbox); have GW111 := Aside0.mk ((by rw [hg]; exact (ae_ (bz HB.out)) : w.heap.size ≤ gb111)); have GE111 := Aside0.mk ((by rw [hg]; exact (ae_ (bz HB.out)) : w.heap.size ≤ gb111)); replace HB := Aside0.mk (ag_ (bz HB.out) hb); clear hb hbox hg; have hcz19_0 : w18.cell? ⟨gb111, 0, none⟩ = some (.int .i64 0) := (ab_ BK111.out 0).trans rfl; have hcz19_1 : w18.cell? ⟨gb111, 1, none⟩ = some (.int .i64 0) := (ab_ BK111.out 1).trans rfl; have hcz19_2 : w18.cell? ⟨gb111, 2, none⟩ = some (.string (⟨#[]⟩ : ByteArray)) := (ab_ BK111.out 2).trans rfl; have hcz19_3 : w18.cell? ⟨gb111, 3, none⟩ = some (.slice none 0 0) := (ab_ BK111.out 3).trans rfl; have hfz19_0 := aa_ BK111.out 0; have hfz19_1 := aa_ BK111.out 1; have hfz19_2 := aa_ BK111.out 2; have hfz19_3 := aa_ BK111.out 3) | ((with_reducible refine am_ (f := 83) rfl ?_); refine aX_ (some 35) rfl rfl Try.func83 (by kernel_rfl) rfl #[.slice A110_3 ((ak_ y107 x29_1).f3).length c110_3] rfl (by first | rfl | (simp only [List.map_toArray, List.map_cons, List.map_nil]; first | done | rfl)) ?_; (with_reducible refine (impl_Entry.calls _ _ ((ak_ y107 x29_1).f3) t112 _ ?side1 ?side2 A16.out).mono ?_); (case side1 => repeat (first | exact ((Kd.bb_ (vz (Kd.aW_ (Kd.V_far (p := ⟨gb111, 3, none⟩) (Kd.V_far (p := ⟨gb111, 2, none⟩) (Kd.V_far (p := ⟨gb111, 1, none⟩) (Kd.V_far (p := ⟨gb111, 0, none⟩) (Kd.aW_ HL110_3.out (fun k_ hk => (⟨hk, hk.2⟩ : _ ∧ k_ ≠ gb111))) (fun _ hk => hk.2) (.int .i64 ((ak_ y107 x29_1).f0))) (fun _ hk => hk.2) (.int .i64 ((ak_ y107 x29_1).f1))) (fun _ hk => hk.2) (.string ((ak_ y107 x29_1).f2))) (fun _ hk => hk.2) (.slice A110_3 ((ak_ y107 x29_1).f3).length c110_3)) (fun _ h_ => h_.1)))).2.2) | (with_reducible first | refine Kd.C_alloc ?_ _ | refine Kd.C_drewN ?_ _ | refine Kd.C_drew ?_))); (case side2 => exact HC110_3.out); rintro e w20 ⟨v113, rfl, ho0, hb⟩; refine ⟨_, rfl, ?_⟩; replace HO_10 := Aside0.mk (Kd.S_elder' (sz (Kd.bY_ (Kd.S_far (p := ⟨gb111, 3, none⟩) (Kd.S_far (p := ⟨gb111, 2, none⟩) (Kd.S_far (p := ⟨gb111, 1, none⟩) (Kd.S_far (p := ⟨gb111, 0, none⟩) (Kd.bY_ HO_10.out (fun k_ hk => (⟨hk, hk.2⟩ : _ ∧ k_ ≠ gb111))) (fun _ hk => hk.2) (.int .i64 ((ak_ y107 x29_1).f0))) (fun _ hk => hk.2) (.int .i64 ((ak_ y107 x29_1).f1))) (fun _ hk => hk.2) (.string ((ak_ y107 x29_1).f2))) (fun _ hk => hk.2) (.slice A110_3 ((ak_ y107 x29_1).f3).length c110_3)) (fun _ h_ => h_.1))) (Kd.bv_ ho0) hb); replace HO_27 := Aside0.mk (Kd.N_elder' (nz (Kd.cs_ (Kd.N_far (p := ⟨gb111, 3, none⟩) (Kd.N_far (p := ⟨gb111, 2, none⟩) (Kd.N_far (p := ⟨gb111, 1, none⟩) (Kd.N_far (p := ⟨gb111, 0, none⟩) (Kd.cs_ HO_27.out (fun k_ hk => (⟨hk, hk.2⟩ : _ ∧ k_ ≠ gb111))) (fun _ hk => hk.2) (.int .i64 ((ak_ y107 x29_1).f0))) (fun _ hk => hk.2) (.int .i64 ((ak_ y107 x29_1).f1))) (fun _ hk => hk.2) (.string ((ak_ y107 x29_1).f2))) (fun _ hk => hk.2) (.slice A110_3 ((ak_ y107 x29_1).f3).length c110_3)) (fun _ h_ => h_.1))) (Kd.bv_ ho0) hb); have HO114 := Aside0.mk (Kd.bI_ (Kd.dn_ (M := fun k_ => (w.heap.size ≤ k_)) ho0 (ae_ (by repeat (first | (with_reducible first | exact HB.out | apply bA_ | apply bN_ | apply bD_ | refine ac_ ?_ GE111.out) | exact HB.out))) (fun k_ h_ => h_)) (ae_ (by repeat (first | (with_reducible first | exact HB.out | apply bA_ | apply bN_ | apply bD_ | refine ac_ ?_ GE111.out) | exact HB.out)))); replace HR110_3 := Aside0.mk (Kd.bE_ ((Kd.bb_ (vz (Kd.aW_ (Kd.V_far (p := ⟨gb111, 3, none⟩) (Kd.V_far (p := ⟨gb111, 2, none⟩) (Kd.V_far (p := ⟨gb111, 1, none⟩) (Kd.V_far (p := ⟨gb111, 0, none⟩) (Kd.aW_ HL110_3.out (fun k_ hk => (⟨hk, hk.2⟩ : _ ∧ k_ ≠ gb111))) (fun _ hk => hk.2) (.int .i64 ((ak_ y107 x29_1).f0))) (fun _ hk => hk.2) (.int .i64 ((ak_ y107 x29_1).f1))) (fun _ hk => hk.2) (.string ((ak_ y107 x29_1).f2))) (fun _ hk => hk.2) (.slice A110_3 ((ak_ y107 x29_1).f3).length c110_3)) (fun _ h_ => h_.1)))).2.2) hb); replace HL110_3 := Aside0.mk (Kd.bP_ (vz (Kd.aW_ (Kd.V_far (p := ⟨gb111, 3, none⟩) (Kd.V_far (p := ⟨gb111, 2, none⟩) (Kd.V_far (p := ⟨gb111, 1, none⟩) (Kd.V_far (p := ⟨gb111, 0, none⟩) (Kd.aW_ HL110_3.out (fun k_ hk => (⟨hk, hk.2⟩ : _ ∧ k_ ≠ gb111))) (fun _ hk => hk.2) (.int .i64 ((ak_ y107 x29_1).f0))) (fun _ hk => hk.2) (.int .i64 ((ak_ y107 x29_1).f1))) (fun _ hk => hk.2) (.string ((ak_ y107 x29_1).f2))) (fun _ hk => hk.2) (.slice A110_3 ((ak_ y107 x29_1).f3).length c110_3)) (fun _ h_ => h_.1))) (Kd.bv_ ho0) hb); replace BK111 := Aside0.mk (aG_ (g := gb111) (o := .cells #[.int .i64 ((ak_ y107 x29_1).f0), .int .i64 ((ak_ y107 x29_1).f1), .string ((ak_ y107 x29_1).f2), .slice A110_3 ((ak_ y107 x29_1).f3).length c110_3] 78 (0, 0)) (by (with_reducible repeat (first | refine ai_ ?_ _ | refine aj_ ?_ | refine ah_ ?_ _)); refine aB_ (cs := #[.int .i64 ((ak_ y107 x29_1).f0), .int .i64 ((ak_ y107 x29_1).f1), .string ((ak_ y107 x29_1).f2), .slice none 0 0]) ?_ 3 _ rfl; (with_reducible repeat (first | refine ai_ ?_ _ | refine aj_ ?_ | refine ah_ ?_ _)); refine aB_ (cs := #[.int .i64 ((ak_ y107 x29_1).f0), .int .i64 ((ak_ y107 x29_1).f1), .string (⟨#[]⟩ : ByteArray), .slice none 0 0]) ?_ 2 _ rfl; (with_reducible repeat (first | refine ai_ ?_ _ | refine aj_ ?_ | refine ah_ ?_ _)); refine aB_ (cs := #[.int .i64 ((ak_ y107 x29_1).f0), .int .i64 0, .string (⟨#[]⟩ : ByteArray), .slice none 0 0]) ?_ 1 _ rfl; (with_reducible repeat (first | refine ai_ ?_ _ | refine aj_ ?_ | refine ah_ ?_ _)); refine aB_ (cs := #[.int .i64 0, .int .i64 0, .string (⟨#[]⟩ : ByteArray), .slice none 0 0]) ?_ 0 _ rfl; (with_reducible repeat (first | refine ai_ ?_ _ | refine aj_ ?_ | refine ah_ ?_ _)); exact BK111.out) hb); replace HB := Aside0.mk (ag_ (by repeat (first | (with_reducible first | exact HB.out | apply bA_ | apply bN_ | apply bD_ | refine ac_ ?_ GE111.out) | exact HB.out)) hb); (try clear hb); (try clear ho0); obtain ⟨Ao21, co21, eo21⟩ := Kd.bF_ HO114.out; subst eo21; have hcz22_0 : w20.cell? ⟨gb111, 0, none⟩ = some (.int .i64 ((ak_ y107 x29_1).f0)) := (ab_ BK111.out 0).trans rfl; have hcz22_1 : w20.cell? ⟨gb111, 1, none⟩ = some (.int .i64 ((ak_ y107 x29_1).f1)) := (ab_ BK111.out 1).trans rfl; have hcz22_2 : w20.cell? ⟨gb111, 2, none⟩ = some (.string ((ak_ y107 x29_1).f2)) := (ab_ BK111.out 2).trans rfl; have hcz22_3 : w20.cell? ⟨gb111, 3, none⟩ = some (.slice A110_3 ((ak_ y107 x29_1).f3).length c110_3) := (ab_ BK111.out 3).trans rfl; have hfz22_0 := aa_ BK111.out 0; have hfz22_1 := aa_ BK111.out 1; have hfz22_2 := aa_ BK111.out 2; have hfz22_3 := aa_ BK111.out 3) | ((with_reducible refine cK_ (t := 27) (p := 36) rfl ?_); refine cC_ (t := 27) (p := 36) (v := ?vo_w23) (w1 := (w20.setCell ⟨gb111, 3, none⟩ (.slice Ao21 t112.length co21))) ?hg ?ho ?hn ?hr ?_; (case ho => rfl); (case hg => rfl); (case hn => rfl); (case hr => (go_simp; try rfl)); intro w23 hw; replace HO_10 : Aside0 (Kd.S k78 78 w23 w.heap.size (fun k_ => (w.heap.size ≤ k_) ∧ some k_ ≠ (.slice (some ad110) y107.length co12 : Value).ownBlock ∧ some k_ ≠ (.slice Ao21 t112.length co21 : Value).ownBlock ∧ k_ ≠ gb111) u10 x10_1) := ⟨(by rw [hw]; exact (sz (Kd.bY_ (Kd.S_far (p := ⟨gb111, 3, none⟩) (Kd.bY_ HO_10.out (fun k_ hk => (⟨hk, hk.1.2⟩ : _ ∧ k_ ≠ gb111))) (fun _ hk => hk.2) (.slice Ao21 t112.length co21)) (fun _ hk => ⟨hk.1.1.1.1, ⟨hk.1.1.1.2, ⟨hk.1.2, hk.1.1.2⟩⟩⟩))))⟩; replace HO_27 : Aside0 (Kd.N k78 78 w23 w.heap.size (fun k_ => ((P0_ k_ ∨ P3_ k_) ∨ w.heap.size ≤ k_) ∧ some k_ ≠ (u10 : Value).ownBlock ∧ some k_ ≠ (.slice Ao21 t112.length co21 : Value).ownBlock ∧ k_ ≠ gb111) (.slice (some ad110) y107.length co12) y107) := ⟨(by rw [hw]; exact (nz (Kd.cs_ (Kd.N_far (p := ⟨gb111, 3, none⟩) (Kd.cs_ HO_27.out (fun k_ hk => (⟨hk, hk.1.2⟩ : _ ∧ k_ ≠ gb111))) (fun _ hk => hk.2) (.slice Ao21 t112.length co21)) (fun _ hk => ⟨hk.1.1.1.1, ⟨hk.1.1.1.2, ⟨hk.1.2, hk.1.1.2⟩⟩⟩))))⟩; replace HL110_3 : Aside0 (Kd.V k63 63 w23 w.heap.size (fun k_ => ((P0_ k_ ∨ P3_ k_) ∨ w.heap.size ≤ k_) ∧ some k_ ≠ (u10 : Value).ownBlock ∧ some k_ ≠ (.slice (some ad110) y107.length co12 : Value).ownBlock ∧ some k_ ≠ (.slice Ao21 t112.length co21 : Value).ownBlock ∧ k_ ≠ gb111) (.slice A110_3 ((ak_ y107 x29_1).f3).length c110_3) ((ak_ y107 x29_1).f3)) := ⟨(by rw [hw]; exact (vz (Kd.aW_ (Kd.V_far (p := ⟨gb111, 3, none⟩) (Kd.aW_ HL110_3.out (fun k_ hk => (⟨hk, hk.1.2⟩ : _ ∧ k_ ≠ gb111))) (fun _ hk => hk.2) (.slice Ao21 t112.length co21)) (fun _ hk => ⟨hk.1.1.1.1.1, ⟨hk.1.1.1.1.2, ⟨hk.1.1.1.2, ⟨hk.1.2, hk.1.1.2⟩⟩⟩⟩))))⟩; replace HO114 : Aside0 (Kd.R k63 63 w23 w.heap.size (fun k_ => (w.heap.size ≤ k_)) (.slice Ao21 t112.length co21) t112) := ⟨(by rw [hw]; exact (rz (Kd.aK_ (Kd.R_far (p := ⟨gb111, 3, none⟩) (Kd.bp_ HO114.out BK111.out (by decide)) (fun _ hk => hk.2) (.slice Ao21 t112.length co21)) (fun _ hk => hk.1.1))))⟩; replace BK111 : Aside0 (w23.heap[gb111]? = some (.cells #[.int .i64 ((ak_ y107 x29_1).f0), .int .i64 ((ak_ y107 x29_1).f1), .string ((ak_ y107 x29_1).f2), .slice Ao21 t112.length co21] 78 (0, 0))) := ⟨(by rw [hw]; exact (by (with_reducible repeat (first | refine ai_ ?_ _ | refine aj_ ?_ | refine ah_ ?_ _)); refine aB_ (cs := #[.int .i64 ((ak_ y107 x29_1).f0), .int .i64 ((ak_ y107 x29_1).f1), .string ((ak_ y107 x29_1).f2), .slice A110_3 ((ak_ y107 x29_1).f3).length c110_3]) ?_ 3 _ rfl; (with_reducible repeat (first | refine ai_ ?_ _ | refine aj_ ?_ | refine ah_ ?_ _)); exact BK111.out))⟩; replace HB : Aside0 (Below w.heap.size w w23) := ⟨(by rw [hw]; exact (by repeat (first | (with_reducible first | exact HB.out | apply bA_ | apply bN_ | apply bD_ | refine ac_ ?_ GE111.out) | exact HB.out)))⟩; clear hw; have hcz24_0 : w23.cell? ⟨gb111, 0, none⟩ = some (.int .i64 ((ak_ y107 x29_1).f0)) := (ab_ BK111.out 0).trans rfl; have hcz24_1 : w23.cell? ⟨gb111, 1, none⟩ = some (.int .i64 ((ak_ y107 x29_1).f1)) := (ab_ BK111.out 1).trans rfl; have hcz24_2 : w23.cell? ⟨gb111, 2, none⟩ = some (.string ((ak_ y107 x29_1).f2)) := (ab_ BK111.out 2).trans rfl; have hcz24_3 : w23.cell? ⟨gb111, 3, none⟩ = some (.slice Ao21 t112.length co21) := (ab_ BK111.out 3).trans rfl; have hfz24_0 := aa_ BK111.out 0; have hfz24_1 := aa_ BK111.out 1; have hfz24_2 := aa_ BK111.out 2; have hfz24_3 := aa_ BK111.out 3) | ((with_reducible refine bn_ (b := .append) (xs := #[.tmp 37, .tmp 39]) rfl ?_); at_builtin; refine Kd.S_append k78 (w0 := w) w.heap.size rfl (.tmp 37) (.tmp 39) 38 78 (.agg #[(.int .i64 0), (.int .i64 0), (.string ⟨#[]⟩), (.slice none 0 0)]) 56 rfl Try.underlying38 info78 rfl (by decide) (by omega) u10 x10_1 (⟨(ak_ y107 x29_1).f0, (ak_ y107 x29_1).f1, (ak_ y107 x29_1).f2, t112⟩ : S78) [.int .i64 ((ak_ y107 x29_1).f0), .int .i64 ((ak_ y107 x29_1).f1), .string ((ak_ y107 x29_1).f2), .slice Ao21 t112.length co21] (fun k_ => (w.heap.size ≤ k_) ∧ some k_ ≠ (.slice (some ad110) y107.length co12 : Value).ownBlock ∧ k_ ≠ gb111) (fun k_ => some k_ = (.slice Ao21 t112.length co21 : Value).ownBlock) rfl rfl ?aP (fun k_ hk_ => ((Kd.aK_ (ok' := fun k_ => ((fun k_ => (w.heap.size ≤ k_) ∧ some k_ ≠ (.slice (some ad110) y107.length co12 : Value).ownBlock ∧ k_ ≠ gb111)) k_ ∧ some k_ ≠ (u10 : Value).ownBlock) (Kd.bp_ (Kd.dv_ (Kd.dv_ (HO114.out) (Kd.N_typed HO_27.out) (by decide)) (Kd.S_typed HO_10.out) (by decide)) BK111.out (by decide)) (fun k_ hk => ⟨⟨hk.1.1.1, ⟨hk.1.1.2, hk.2⟩⟩, hk.1.2⟩))).1 k_ hk_.symm) ?aF ?aO ?aB ?aS ?aL ?_; (case aP => exact k78_mkM _ _ _ (⟨(ak_ y107 x29_1).f0, (ak_ y107 x29_1).f1, (ak_ y107 x29_1).f2, t112⟩ : S78) (Kd.aK_ (Kd.R_tight rfl (Kd.aK_ (ok' := fun k_ => ((fun k_ => (w.heap.size ≤ k_) ∧ some k_ ≠ (.slice (some ad110) y107.length co12 : Value).ownBlock ∧ k_ ≠ gb111)) k_ ∧ some k_ ≠ (u10 : Value).ownBlock) (Kd.bp_ (Kd.dv_ (Kd.dv_ (HO114.out) (Kd.N_typed HO_27.out) (by decide)) (Kd.S_typed HO_10.out) (by decide)) BK111.out (by decide)) (fun k_ hk => ⟨⟨hk.1.1.1, ⟨hk.1.1.2, hk.2⟩⟩, hk.1.2⟩))) (fun _ h_ => h_))); (case aB => exact (by repeat (first | (with_reducible first | exact HB.out | apply bA_ | apply bN_ | apply bD_ | refine ac_ ?_ GE111.out) | exact HB.out))); (case aF => exact (fun k_ hk => ⟨(Nat.le_trans (ae_ (by repeat (first | (with_reducible first | exact HB.out | apply bA_ | apply bN_ | apply bD_ | refine ac_ ?_ GE111.out) | exact HB.out))) hk), Kd.fresh' (Kd.N_lt (nz HO_27.out)) k_ hk, Kd.df_ (g := gb111) (o := .cells #[.int .i64 ((ak_ y107 x29_1).f0), .int .i64 ((ak_ y107 x29_1).f1), .string ((ak_ y107 x29_1).f2), .slice Ao21 t112.length co21] 78 (0, 0)) (kz BK111.out) k_ hk⟩)); (case aO => exact (sz (Kd.bY_ HO_10.out (fun k_ hk => ⟨⟨hk.1, ⟨hk.2.1, hk.2.2.2⟩⟩, fun e_ => hk.2.2.1 e_⟩)))); (case aS => exact (ae_ (by repeat (first | (with_reducible first | exact HB.out | apply bA_ | apply bN_ | apply bD_ | refine ac_ ?_ GE111.out) | exact HB.out)))); (case aL => have := LMc17.out; omega); intro v116 w25 ho hb hg hat; rw [← Ny115.out] at ho; replace HO_27 := Aside0.mk (Kd.N_afterv (ok := (fun k_ => ((P0_ k_ ∨ P3_ k_) ∨ w.heap.size ≤ k_) ∧ some k_ ≠ (.slice Ao21 t112.length co21 : Value).ownBlock ∧ k_ ≠ gb111)) (nz (Kd.cs_ HO_27.out (fun _ hk => ⟨⟨hk.1, ⟨hk.2.2.1, hk.2.2.2⟩⟩, hk.2.1⟩))) hg hat); replace HL110_3 := Aside0.mk (Kd.dp_ (ok := (fun k_ => ((P0_ k_ ∨ P3_ k_) ∨ w.heap.size ≤ k_) ∧ some k_ ≠ (.slice (some ad110) y107.length co12 : Value).ownBlock ∧ some k_ ≠ (.slice Ao21 t112.length co21 : Value).ownBlock ∧ k_ ≠ gb111)) (vz (Kd.aW_ HL110_3.out (fun _ hk => ⟨⟨hk.1, ⟨hk.2.2.1, ⟨hk.2.2.2.1, hk.2.2.2.2⟩⟩⟩, hk.2.1⟩))) hg hat); replace BK111 := Aside0.mk (bW_ (g := gb111) (o := .cells #[.int .i64 ((ak_ y107 x29_1).f0), .int .i64 ((ak_ y107 x29_1).f1), .string ((ak_ y107 x29_1).f2), .slice Ao21 t112.length co21] 78 (0, 0)) (kz BK111.out) hg (Kd.S_away HO_10.out (fun _ hk => hk.2.2.2))); replace HB := Aside0.mk (hb); have HO117 := Aside0.mk (ho); clear HO_10; clear HO114; clear ho hb hg hat))
    go_roundg k1
    case measure => have := HK1.out; omega
    case rel => exact ⟨(y115), (wrap64 (x29_1 + 1)), (by first | rfl | (simp; done) | (simp [*]; done)), H', ⟨by have := HK1.out; omega⟩, ⟨sz (Kd.bY_ HO117.out (fun _ hk => ⟨hk.1, hk.2.1⟩))⟩, ⟨nz (Kd.cs_ HO_27.out (fun _ hk => ⟨hk.1.1, hk.2⟩))⟩, ⟨by repeat (first | (with_reducible first | exact HB.out | apply bA_ | apply bN_ | apply bD_ | refine ac_ ?_ GE111.out) | exact HB.out)⟩⟩
 rw [if_pos c5] at H
 have c5b0 : ((l0.length : Int) == 16) = true := beq_iff_eq.mpr c5
 have c5b1 : ((l0.length : Int) != 16) = false := bne_eq_false_iff_eq.mpr c5
 clear c5
 simp only [Option.some.injEq, Prod.mk.injEq] at H
 obtain ⟨rfl, rfl⟩ := H
 go_enter Try.func57, Try.ntmps57
 go_wp2
 go_ret2
 exact ⟨_, by first | rfl | (simp [*, an_, ao_] <;> rfl), by first | exact Kd.S_nil _ _ _ _ _ | exact Kd.N_nil _ _ _ _ _ | exact Kd.V_nil _ _ _ _ _ | exact Kd.Q_nil _ _ _ _ _ | exact Kd.R_nil _ _ _ _ _, bz HB.out⟩
def aP_.j0 : Nat → List (S78) → Int → Int → ByteArray → Int → Option ((List (S78)) × Int)
 | 0, _, _, _, _, _ => none
 | k + 1, x0, x1, x2, x3, x10 => if x10 = 0 then ((aY_.f k x0 x1 x2).bind fun t106 => ((cx_.f x0 t106).bind fun t107 => ((cx_.f x0 x1).bind fun t110 => ((cx_.f x0 x2).bind fun t113 => ((aq_.f k t107 t110 t113).bind fun bt116 => (if bt116.2 = 0 then ((bx_.f k x0 x1 x3 bt116.1).bind fun bt120 => (some (bt120.1, bt120.2))) else (some (([] : List (S78)), bt116.2)))))))) else (some (([] : List (S78)), x10))
def aP_.f (k : Nat) (l0 : List (S78)) (a1 : Int) (a2 : Int) (a3 : ByteArray) : Option ((List (S78)) × Int) := (aU_.f k l0 (([a1, a2] : List Int))).bind fun t104 => ((br_.f k a3).bind fun t105 => (if t105 = true then (aP_.j0 k l0 a1 a2 a3 t104) else (aP_.j0 k l0 a1 a2 a3 1)))
set_option maxHeartbeats 8000000 in
set_option maxRecDepth 100000 in
theorem aP_.calls (k : Nat) (A0 : Option Addr) (c0 : Nat) (l0 : List (S78)) (a1 : Int) (a2 : Int) (a3 : ByteArray) (r1 : List (S78)) (r2 : Int) (w : World) (hr0 : Kd.C k78 w A0 l0.length l0) (hc0 : l0.length ≤ c0) (h : aP_.f k l0 a1 a2 a3 = some (r1, r2)) :
  Calls Try.prog 22 #[.slice A0 l0.length c0, .int .i64 a1, .int .i64 a2, .string a3] w fun e w' => ∃ v0_ : Value, e = .returned (.tuple #[v0_, .int .i64 r2]) ∧ Kd.S k78 78 w' w.heap.size (fun _ => True) v0_ r1 ∧ Below w.heap.size w w' := by
 have HR0 := Aside0.mk hr0
 have HC0 := Aside0.mk hc0
 clear hr0 hc0
 have HB := Aside0.mk (Below.refl w.heap.size w)
 have H : ((aU_.f k l0 (([a1, a2] : List Int))).bind fun t104 => ((br_.f k a3).bind fun t105 => (if t105 = true then (aP_.j0 k l0 a1 a2 a3 t104) else (aP_.j0 k l0 a1 a2 a3 1)))) = some (r1, r2) := h
 clear h
 obtain ⟨y101, hy101⟩ : ∃ y_ : List Int, y_ = (([a1, a2] : List Int)) := ⟨_, rfl⟩
 replace H : ((aU_.f k l0 y101).bind fun t104 => ((br_.f k a3).bind fun t105 => (if t105 = true then (aP_.j0 k l0 a1 a2 a3 t104) else (aP_.j0 k l0 a1 a2 a3 1)))) = some (r1, r2) := by first | (rw [hy101]; with_reducible exact H) | (have H2_ := (Option.bind_some _ _).symm.trans H; rw [hy101]; with_reducible exact H2_) | (have H2_ := (Option.bind_some _ _).symm.trans H; with_reducible exact H2_) | with_reducible exact H | (rw [hy101]; exact H) | exact H
 have Ny101 := Aside0.mk hy101
 clear hy101
 replace H := Option.bind_eq_some_iff.mp H
 obtain ⟨t104, A50, H⟩ := H
 (try dsimp only at H)
 have A5 := Aside0.mk A50
 clear A50
 replace H := Option.bind_eq_some_iff.mp H
 obtain ⟨t105, A60, H⟩ := H
 (try dsimp only at H)
 have A6 := Aside0.mk A60
 clear A60
 have HC7 := Aside0.mk H
 clear H
 go_enter Try.func22, Try.ntmps22
 go_upto_if 19 with (first | ((with_reducible refine au_ (N := 15) rfl ?_); refine Kd.R_lit (Kd.int .i64) _ 2 ?hg (N := 15) ?hd (xs := ([a1, a2] : List Int)) (inner := [.int .i64 a1, .int .i64 a2]) (ok := fun _ => True) (okp := fun _ => True) ?hr ?hp (fun _ hk => hk) trivial (Below.refl _ _) (Nat.le_refl _) (by simp) ?_; (case hd => rfl); (case hg => rfl); (case hr => (go_simp; try rfl)); (case hp => exact (Reps.one (show Kd.M (Kd.int .i64) _ _ _ a1 [.int .i64 a1] from rfl) (Reps.one (show Kd.M (Kd.int .i64) _ _ _ a2 [.int .i64 a2] from rfl) (Reps.none _ _)))); intro v102 w8 ho9 hb hg_ hnew_; clear hg_ hnew_; (first | rw [← Ny101.out] at ho9 | (simp only [Int.reduceToNat] at ho9; rw [← Ny101.out] at ho9)); have HO103 := Aside0.mk (Kd.bI_ ho9 (ae_ (bz HB.out))); replace HB := Aside0.mk (ag_ (bz HB.out) hb); clear hb ho9; obtain ⟨Ao10, co10, eo10⟩ := Kd.bF_ HO103.out; subst eo10) | ((with_reducible refine am_ (f := 53) rfl ?_); refine aX_ (some 16) rfl rfl Try.func53 (by kernel_rfl) rfl #[.slice A0 l0.length c0, .slice Ao10 y101.length co10] rfl (by first | rfl | (simp only [List.map_toArray, List.map_cons, List.map_nil]; first | done | rfl)) ?_; (with_reducible refine (aU_.calls k _ _ l0 _ _ y101 t104 _ ?side1 ?side2 ?side3 ?side4 A5.out).mono ?_); (case side1 => exact cz (Kd.bE_ HR0.out HB.out)); (case side2 => exact HC0.out); (case side3 => exact cz (Kd.bf_ HO103.out).2.2); (case side4 => exact (Kd.bf_ HO103.out).2.1); rintro e w11 ⟨rfl, hb⟩; refine ⟨_, rfl, ?_⟩; replace HO103 := Aside0.mk (Kd.aH_ (rz HO103.out) hb); replace HB := Aside0.mk (ag_ (bz HB.out) hb); (try clear hb)) | ((with_reducible refine am_ (f := 54) rfl ?_); refine aX_ (some 18) rfl rfl Try.func54 (by kernel_rfl) rfl #[.string a3] rfl (by first | rfl | (simp only [List.map_toArray, List.map_cons, List.map_nil]; first | done | rfl)) ?_; (with_reducible refine (br_.calls k a3 t105 _ A6.out).mono ?_); rintro e w' ⟨rfl, ⟨nd, rfl⟩⟩; refine ⟨_, rfl, ?_⟩; (try (rw [cV_ w11]; generalize hq_ : World.drewN w11 _ = w11; have n0_ : Aside0 (Kd.R (Kd.int .i64) 2 w11 w.heap.size (fun k_ => True) (.slice Ao10 y101.length co10) y101) := ⟨by rw [← hq_]; exact (rz HO103.out)⟩; have n1_ : Aside0 (Below w.heap.size w w11) := ⟨by rw [← hq_]; exact (bz HB.out)⟩; clear HO103 HB hq_; have HO103 := n0_; have HB := n1_; clear n0_ n1_))))
 (try simp only [Act.put, lsa_, ls0_, ls1_])
 go_cut [10] (fun v10 wc => ∃ (kq : Nat) (x10_6 : Int), v10 = .int .i64 x10_6 ∧ Aside0 (aP_.j0 kq l0 a1 a2 a3 x10_6 = some (r1, r2)) ∧ Aside0 (kq ≤ k) ∧ Aside0 (Below w.heap.size w wc))
 case first =>
  have H := HC7.out
  clear HC7
  by_cases c12 : t105 = true
  rotate_left
  ·replace c12 := Bool.eq_false_iff.mpr c12
   subst c12
   have H1 : (aP_.j0 k l0 a1 a2 a3 1) = some (r1, r2) := by rw [if_neg (show ¬ (false = true) by decide)] at H; exact H
   clear H
   have H := H1
   clear H1
   have H' := Aside0.mk H
   clear H
   go_wp2
   go_meet
   case rel => exact ⟨_, (1), (by first | rfl | (simp; done) | (simp [*]; done)), H', ⟨by first | omega | exact Nat.le_refl _⟩, ⟨bz HB.out⟩⟩
  subst c12
  have H1 : (aP_.j0 k l0 a1 a2 a3 t104) = some (r1, r2) := by rw [if_pos rfl] at H; exact H
  clear H
  have H := H1
  clear H1
  have H' := Aside0.mk H
  clear H
  go_wp2
  go_meet
  case rel => exact ⟨_, (t104), (by first | rfl | (simp; done) | (simp [*]; done)), H', ⟨by first | omega | exact Nat.le_refl _⟩, ⟨bz HB.out⟩⟩
 case rest =>
  clear HC7
  obtain ⟨kq, x10_6, rfl, HA, HJ6, HB⟩ := hcut
  cases kq with
  | zero => exact absurd HA.out (by simp [aP_.j0])
  | succ kj6 =>
   have H := HA.out
   clear HA
   simp only [aP_.j0] at H
   by_cases c13 : x10_6 = 0
   rotate_left
   ·rw [if_neg c13] at H
    have c13b0 : (x10_6 == 0) = false := beq_eq_false_iff_ne.mpr c13
    have c13b1 : (x10_6 != 0) = true := bne_iff_ne.mpr c13
    simp only [Option.some.injEq, Prod.mk.injEq] at H
    obtain ⟨rfl, rfl⟩ := H
    go_wp2
    go_ret2
    exact ⟨_, by first | rfl | (simp [*, an_, ao_] <;> rfl), by first | exact Kd.S_nil _ _ _ _ _ | exact Kd.N_nil _ _ _ _ _ | exact Kd.V_nil _ _ _ _ _ | exact Kd.Q_nil _ _ _ _ _ | exact Kd.R_nil _ _ _ _ _, bz HB.out⟩
   rw [if_pos c13] at H
   have c13b0 : (x10_6 == 0) = true := beq_iff_eq.mpr c13
   have c13b1 : (x10_6 != 0) = false := bne_eq_false_iff_eq.mpr c13
   clear c13
   replace H := Option.bind_eq_some_iff.mp H
   obtain ⟨t106, A140, H⟩ := H
   (try dsimp only at H)
   have A14 := Aside0.mk A140
   clear A140
   replace H := Option.bind_eq_some_iff.mp H
   obtain ⟨t107, A150, H⟩ := H
   (try dsimp only at H)
   have A15 := Aside0.mk A150
   clear A150
   replace H := Option.bind_eq_some_iff.mp H
   obtain ⟨t110, A160, H⟩ := H
   (try dsimp only at H)
   have A16 := Aside0.mk A160
   clear A160
   replace H := Option.bind_eq_some_iff.mp H
   obtain ⟨t113, A170, H⟩ := H
   (try dsimp only at H)
   have A17 := Aside0.mk A170
   clear A170
   replace H := Option.bind_eq_some_iff.mp H
   obtain ⟨⟨t116, t119⟩, A180, H⟩ := H
   (try dsimp only at H)
   have A18 := Aside0.mk A180
   clear A180
   have HC19 := Aside0.mk H
   clear H
   go_upto_if 40 with (first | ((with_reducible refine am_ (f := 56) rfl ?_); refine aX_ (some 28) rfl rfl Try.func56 (by kernel_rfl) rfl #[.slice A0 l0.length c0, .int .i64 a1, .int .i64 a2] rfl (by first | rfl | (simp only [List.map_toArray, List.map_cons, List.map_nil]; first | done | rfl)) ?_; (with_reducible refine (aY_.calls kj6 _ _ l0 a1 a2 t106 _ ?side1 ?side2 A14.out).mono ?_); (case side1 => exact cz (Kd.bE_ HR0.out HB.out)); (case side2 => exact HC0.out); rintro e w20 ⟨rfl, hb⟩; refine ⟨_, rfl, ?_⟩; replace HB := Aside0.mk (ag_ (bz HB.out) hb); (try clear hb)) | ((with_reducible refine am_ (f := 55) rfl ?_); refine aX_ (some 29) rfl rfl Try.func55 (by kernel_rfl) rfl #[.slice A0 l0.length c0, .int .i64 t106] rfl (by first | rfl | (simp only [List.map_toArray, List.map_cons, List.map_nil]; first | done | rfl)) ?_; (with_reducible refine (cx_.calls (fun k_ => k_ < w.heap.size) _ _ l0 t106 t107 _ ?side1 A15.out).mono ?_); (case side1 => exact Kd.V_mk HC0.out (Kd.F_below (Kd.C_F k78_heap HR0.out) (bz HB.out))); rintro e w21 ⟨v108, rfl, ho0, hb⟩; refine ⟨_, rfl, ?_⟩; have HO109 := Aside0.mk (Kd.V_lower (Kd.aW_ (ok' := fun k_ => True) ho0 (fun k_ hk_ => trivial)) (ae_ (bz HB.out))); replace HB := Aside0.mk (ag_ (bz HB.out) hb); (try clear hb); (try clear ho0)) | ((with_reducible refine am_ (f := 55) rfl ?_); refine aX_ (some 32) rfl rfl Try.func55 (by kernel_rfl) rfl #[.slice A0 l0.length c0, .int .i64 a1] rfl (by first | rfl | (simp only [List.map_toArray, List.map_cons, List.map_nil]; first | done | rfl)) ?_; (with_reducible refine (cx_.calls (fun k_ => k_ < w.heap.size) _ _ l0 a1 t110 _ ?side1 A16.out).mono ?_); (case side1 => exact Kd.V_mk HC0.out (Kd.F_below (Kd.C_F k78_heap HR0.out) (bz HB.out))); rintro e w22 ⟨v111, rfl, ho0, hb⟩; refine ⟨_, rfl, ?_⟩; replace HO109 := Aside0.mk (Kd.aS_ (vz HO109.out) hb); have HO112 := Aside0.mk (Kd.V_lower (Kd.aW_ (ok' := fun k_ => True) ho0 (fun k_ hk_ => trivial)) (ae_ (bz HB.out))); replace HB := Aside0.mk (ag_ (bz HB.out) hb); (try clear hb); (try clear ho0)) | ((with_reducible refine am_ (f := 55) rfl ?_); refine aX_ (some 35) rfl rfl Try.func55 (by kernel_rfl) rfl #[.slice A0 l0.length c0, .int .i64 a2] rfl (by first | rfl | (simp only [List.map_toArray, List.map_cons, List.map_nil]; first | done | rfl)) ?_; (with_reducible refine (cx_.calls (fun k_ => k_ < w.heap.size) _ _ l0 a2 t113 _ ?side1 A17.out).mono ?_); (case side1 => exact Kd.V_mk HC0.out (Kd.F_below (Kd.C_F k78_heap HR0.out) (bz HB.out))); rintro e w23 ⟨v114, rfl, ho0, hb⟩; refine ⟨_, rfl, ?_⟩; replace HO109 := Aside0.mk (Kd.aS_ (vz HO109.out) hb); replace HO112 := Aside0.mk (Kd.aS_ (vz HO112.out) hb); have HO115 := Aside0.mk (Kd.V_lower (Kd.aW_ (ok' := fun k_ => True) ho0 (fun k_ hk_ => trivial)) (ae_ (bz HB.out))); replace HB := Aside0.mk (ag_ (bz HB.out) hb); (try clear hb); (try clear ho0); obtain ⟨Ao24, co24, eo24⟩ := Kd.V_slice HO109.out; subst eo24; obtain ⟨Ao25, co25, eo25⟩ := Kd.V_slice HO112.out; subst eo25; obtain ⟨Ao26, co26, eo26⟩ := Kd.V_slice HO115.out; subst eo26) | ((with_reducible refine am_ (f := 17) rfl ?_); refine aX_ (some 36) rfl rfl Try.func17 (by kernel_rfl) rfl #[.slice Ao24 t107.length co24, .slice Ao25 t110.length co25, .slice Ao26 t113.length co26] rfl (by first | rfl | (simp only [List.map_toArray, List.map_cons, List.map_nil]; first | done | rfl)) ?_; (with_reducible refine (aq_.calls kj6 _ _ t107 (fun k_ => True) _ _ t110 (fun k_ => True) _ _ t113 t116 t119 _ ?side1 ?side2 ?side3 ?side4 A18.out).mono ?_); (case side1 => exact cz (Kd.bb_ HO109.out).2.2); (case side2 => exact (Kd.bb_ HO109.out).2.1); (case side3 => exact HO112.out); (case side4 => exact HO115.out); rintro e w27 ⟨v117, rfl, ho0, hb⟩; refine ⟨_, rfl, ?_⟩; replace HO109 := Aside0.mk (Kd.bP_ (vz HO109.out) (Kd.bv_ ho0) hb); replace HO112 := Aside0.mk (Kd.bP_ (vz HO112.out) (Kd.bv_ ho0) hb); replace HO115 := Aside0.mk (Kd.bP_ (vz HO115.out) (Kd.bv_ ho0) hb); have HO118 := Aside0.mk (Kd.bI_ (Kd.aK_ (ok' := fun k_ => True) ho0 (fun _ hk_ => trivial)) (ae_ (bz HB.out))); replace HB := Aside0.mk (ag_ (bz HB.out) hb); (try clear hb); (try clear ho0)))
   (try simp only [Act.put, lsa_, ls0_, ls1_])
   have H := HC19.out
   clear HC19
   by_cases c28 : t119 = 0
   rotate_left
   ·rw [if_neg c28] at H
    have c28b0 : (t119 == 0) = false := beq_eq_false_iff_ne.mpr c28
    have c28b1 : (t119 != 0) = true := bne_iff_ne.mpr c28
    (first | rw [c28b0] | (simp only [i64_w, i32_w]; rw [c28b0]) | (simp only [c28b1, Bool.not_true, Bool.not_false]) | (simp only [c28b0, Bool.not_true, Bool.not_false]) | skip)
    simp only [Option.some.injEq, Prod.mk.injEq] at H
    obtain ⟨rfl, rfl⟩ := H
    go_wp2
    go_ret2
    exact ⟨_, by first | rfl | (simp [*, an_, ao_] <;> rfl), by first | exact Kd.S_nil _ _ _ _ _ | exact Kd.N_nil _ _ _ _ _ | exact Kd.V_nil _ _ _ _ _ | exact Kd.Q_nil _ _ _ _ _ | exact Kd.R_nil _ _ _ _ _, bz HB.out⟩
   rw [if_pos c28] at H
   have c28b0 : (t119 == 0) = true := beq_iff_eq.mpr c28
   have c28b1 : (t119 != 0) = false := bne_eq_false_iff_eq.mpr c28
   clear c28
   (first | rw [c28b0] | (simp only [i64_w, i32_w]; rw [c28b0]) | (simp only [c28b1, Bool.not_true, Bool.not_false]) | (simp only [c28b0, Bool.not_true, Bool.not_false]) | skip)
   replace H := Option.bind_eq_some_iff.mp H
   obtain ⟨⟨t120, t123⟩, A290, H⟩ := H
   (try dsimp only at H)
   have A29 := Aside0.mk A290
   clear A290
   simp only [Option.some.injEq, Prod.mk.injEq] at H
   obtain ⟨rfl, rfl⟩ := H
   obtain ⟨Ao30, co30, eo30⟩ := Kd.bF_ HO118.out
   subst eo30
   go_wp2_with (first | ((with_reducible refine am_ (f := 57) rfl ?_); refine aX_ (some 46) rfl rfl Try.func57 (by kernel_rfl) rfl #[.slice A0 l0.length c0, .int .i64 a1, .string a3, .slice Ao30 t116.length co30] rfl (by first | rfl | (simp only [List.map_toArray, List.map_cons, List.map_nil]; first | done | rfl)) ?_; (with_reducible refine (bx_.calls kj6 (fun k_ => k_ < w.heap.size) _ _ l0 a1 a3 (fun k_ => some k_ = (.slice Ao30 t116.length co30 : Value).ownBlock) _ _ t116 t120 t123 _ ?side1 ?side2 A29.out).mono ?_); (case side1 => exact Kd.V_mk HC0.out (Kd.F_below (Kd.C_F k78_heap HR0.out) (bz HB.out))); (case side2 => exact Kd.R_V (Kd.R_tight rfl (HO118.out))); rintro e w31 ⟨v121, rfl, ho0, hb⟩; refine ⟨_, rfl, ?_⟩; replace HO109 := Aside0.mk (Kd.bP_ (vz HO109.out) (Kd.dr_ ho0) hb); replace HO112 := Aside0.mk (Kd.bP_ (vz HO112.out) (Kd.dr_ ho0) hb); replace HO115 := Aside0.mk (Kd.bP_ (vz HO115.out) (Kd.dr_ ho0) hb); have HO122 := Aside0.mk (Kd.S_lower (Kd.S_new' (Kd.bY_ (ok' := fun k_ => True) ho0 (fun _ hk_ => trivial)) (Kd.R_lt (rz HO118.out))) (ae_ (bz HB.out))); replace HO118 := Aside0.mk (Kd.aH_ (rz HO118.out) hb); replace HB := Aside0.mk (ag_ (bz HB.out) hb); (try clear hb); (try clear ho0)))
   go_ret2
   exact ⟨_, by first | rfl | (simp [*, an_, ao_] <;> rfl), sz (Kd.bY_ HO122.out (fun _ hk => trivial)), bz HB.out⟩
def cN_.f (a0_0 : ByteArray) (a0_1 : Int) (a0_2 : Int) (a1_0 : ByteArray) (a1_1 : Int) (a1_2 : Int) : Option (Bool) := if a0_0.toList = a1_0.toList then (if a0_1 = a1_1 then (if a0_2 = a1_2 then (some true) else (some false)) else (some false)) else (some false)
set_option maxHeartbeats 8000000 in
set_option maxRecDepth 100000 in
theorem cN_.calls (a0_0 : ByteArray) (a0_1 : Int) (a0_2 : Int) (a1_0 : ByteArray) (a1_1 : Int) (a1_2 : Int) (r : Bool) (w : World) (h : cN_.f a0_0 a0_1 a0_2 a1_0 a1_1 a1_2 = some r) :
  Calls Try.prog 73 #[.agg #[.string a0_0, .int .i64 a0_1, .int .i64 a0_2], .agg #[.string a1_0, .int .i64 a1_1, .int .i64 a1_2]] w fun e w' => e = .returned (.bool r) ∧ Below w.heap.size w w' := by
 have hu61 := Try.underlying61
 have HB := Aside0.mk (Below.refl w.heap.size w)
 have H : (if a0_0.toList = a1_0.toList then (if a0_1 = a1_1 then (if a0_2 = a1_2 then (some true) else (some false)) else (some false)) else (some false)) = some r := h
 clear h
 have HC3 := Aside0.mk H
 clear H
 go_enter Try.func73, Try.ntmps73
 go_upto_if 9 with (first | ((with_reducible refine au_ (N := 2) rfl ?_); refine aQ_ ?hg (N := 2) ?hd (cs := #[.string a0_0, .int .i64 a0_1, .int .i64 a0_2]) (t := 61) ?hr ?_; (case hd => rfl); (case hg => rfl); (case hr => (go_simp; try rfl)); intro gb101 hg w4 hbox hb; have BK101 := Aside0.mk (hbox); have GW101 := Aside0.mk ((by rw [hg]; exact (ae_ (bz HB.out)) : w.heap.size ≤ gb101)); have GE101 := Aside0.mk ((by rw [hg]; exact (ae_ (bz HB.out)) : w.heap.size ≤ gb101)); replace HB := Aside0.mk (ag_ (bz HB.out) hb); clear hb hbox hg) | ((with_reducible refine au_ (N := 3) rfl ?_); refine aQ_ ?hg (N := 3) ?hd (cs := #[.string a1_0, .int .i64 a1_1, .int .i64 a1_2]) (t := 61) ?hr ?_; (case hd => rfl); (case hg => rfl); (case hr => (go_simp; try rfl)); intro gb102 hg w5 hbox hb; have BK102 := Aside0.mk (hbox); have GW102 := Aside0.mk ((by rw [hg]; exact (ae_ (by repeat (first | (with_reducible first | exact HB.out | apply bA_ | apply bN_ | apply bD_ | refine ac_ ?_ GE101.out) | exact HB.out))) : w.heap.size ≤ gb102)); have GE102 := Aside0.mk ((by rw [hg]; exact (ae_ (by repeat (first | (with_reducible first | exact HB.out | apply bA_ | apply bN_ | apply bD_ | refine ac_ ?_ GE101.out) | exact HB.out))) : w.heap.size ≤ gb102)); replace HB := Aside0.mk (ag_ (by repeat (first | (with_reducible first | exact HB.out | apply bA_ | apply bN_ | apply bD_ | refine ac_ ?_ GE101.out) | exact HB.out)) hb); have NB101_102 := Aside0.mk ((by rw [hg]; exact Nat.ne_of_lt (bM_ (g := gb101) (o := .cells #[.string a0_0, .int .i64 a0_1, .int .i64 a0_2] 61 (0, 0)) (kz BK101.out)) : gb101 ≠ gb102)); have NB102_101 := Aside0.mk ((by rw [hg]; exact Nat.ne_of_gt (bM_ (g := gb101) (o := .cells #[.string a0_0, .int .i64 a0_1, .int .i64 a0_2] 61 (0, 0)) (kz BK101.out)) : gb102 ≠ gb101)); replace BK101 := Aside0.mk (aG_ (g := gb101) (o := .cells #[.string a0_0, .int .i64 a0_1, .int .i64 a0_2] 61 (0, 0)) (kz BK101.out) hb); clear hb hbox hg; have hnb6 := NB101_102.out; have hnc6 := NB102_101.out; have hcz7_0 : w5.cell? ⟨gb101, 0, none⟩ = some (.string a0_0) := (ab_ BK101.out 0).trans rfl; have hcz7_1 : w5.cell? ⟨gb101, 1, none⟩ = some (.int .i64 a0_1) := (ab_ BK101.out 1).trans rfl; have hcz7_2 : w5.cell? ⟨gb101, 2, none⟩ = some (.int .i64 a0_2) := (ab_ BK101.out 2).trans rfl; have hfz7_0 := aa_ BK101.out 0; have hfz7_1 := aa_ BK101.out 1; have hfz7_2 := aa_ BK101.out 2; have hcz8_0 : w5.cell? ⟨gb102, 0, none⟩ = some (.string a1_0) := (ab_ BK102.out 0).trans rfl; have hcz8_1 : w5.cell? ⟨gb102, 1, none⟩ = some (.int .i64 a1_1) := (ab_ BK102.out 1).trans rfl; have hcz8_2 : w5.cell? ⟨gb102, 2, none⟩ = some (.int .i64 a1_2) := (ab_ BK102.out 2).trans rfl; have hfz8_0 := aa_ BK102.out 0; have hfz8_1 := aa_ BK102.out 1; have hfz8_2 := aa_ BK102.out 2))
 (try simp only [Act.put, lsa_, ls0_, ls1_])
 have H := HC3.out
 clear HC3
 by_cases c9 : a0_0.toList = a1_0.toList
 rotate_left
 ·rw [if_neg c9] at H
  have c9b0 : (a0_0.toList == a1_0.toList) = false := beq_eq_false_iff_ne.mpr c9
  have c9b1 : (a0_0.toList != a1_0.toList) = true := bne_iff_ne.mpr c9
  (first | rw [c9b0] | (simp only [i64_w, i32_w]; rw [c9b0]) | (simp only [c9b1, Bool.not_true, Bool.not_false]) | (simp only [c9b0, Bool.not_true, Bool.not_false]) | skip)
  obtain rfl := Option.some.inj H
  go_wp2
  go_ret
  exact ⟨by first | rfl | (simp [*, an_, ao_] <;> rfl), by repeat (first | (with_reducible first | exact HB.out | apply bA_ | apply bN_ | apply bD_ | refine ac_ ?_ GE101.out | refine ac_ ?_ GE102.out) | exact HB.out)⟩
 rw [if_pos c9] at H
 have c9b0 : (a0_0.toList == a1_0.toList) = true := beq_iff_eq.mpr c9
 have c9b1 : (a0_0.toList != a1_0.toList) = false := bne_eq_false_iff_eq.mpr c9
 clear c9
 (first | rw [c9b0] | (simp only [i64_w, i32_w]; rw [c9b0]) | (simp only [c9b1, Bool.not_true, Bool.not_false]) | (simp only [c9b0, Bool.not_true, Bool.not_false]) | skip)
 by_cases c10 : a0_1 = a1_1
 rotate_left
 ·rw [if_neg c10] at H
  have c10b0 : (a0_1 == a1_1) = false := beq_eq_false_iff_ne.mpr c10
  have c10b1 : (a0_1 != a1_1) = true := bne_iff_ne.mpr c10
  obtain rfl := Option.some.inj H
  have hnb18 := NB101_102.out
  have hnc18 := NB102_101.out
  have hcz19_0 : w5.cell? ⟨gb101, 0, none⟩ = some (.string a0_0) := (ab_ BK101.out 0).trans rfl
  have hcz19_1 : w5.cell? ⟨gb101, 1, none⟩ = some (.int .i64 a0_1) := (ab_ BK101.out 1).trans rfl
  have hcz19_2 : w5.cell? ⟨gb101, 2, none⟩ = some (.int .i64 a0_2) := (ab_ BK101.out 2).trans rfl
  have hfz19_0 := aa_ BK101.out 0
  have hfz19_1 := aa_ BK101.out 1
  have hfz19_2 := aa_ BK101.out 2
  have hcz20_0 : w5.cell? ⟨gb102, 0, none⟩ = some (.string a1_0) := (ab_ BK102.out 0).trans rfl
  have hcz20_1 : w5.cell? ⟨gb102, 1, none⟩ = some (.int .i64 a1_1) := (ab_ BK102.out 1).trans rfl
  have hcz20_2 : w5.cell? ⟨gb102, 2, none⟩ = some (.int .i64 a1_2) := (ab_ BK102.out 2).trans rfl
  have hfz20_0 := aa_ BK102.out 0
  have hfz20_1 := aa_ BK102.out 1
  have hfz20_2 := aa_ BK102.out 2
  go_wp2
  go_ret
  exact ⟨by first | rfl | (simp [*, an_, ao_] <;> rfl), by repeat (first | (with_reducible first | exact HB.out | apply bA_ | apply bN_ | apply bD_ | refine ac_ ?_ GE101.out | refine ac_ ?_ GE102.out) | exact HB.out)⟩
 rw [if_pos c10] at H
 have c10b0 : (a0_1 == a1_1) = true := beq_iff_eq.mpr c10
 have c10b1 : (a0_1 != a1_1) = false := bne_eq_false_iff_eq.mpr c10
 clear c10
 by_cases c11 : a0_2 = a1_2
 rotate_left
 ·rw [if_neg c11] at H
  have c11b0 : (a0_2 == a1_2) = false := beq_eq_false_iff_ne.mpr c11
  have c11b1 : (a0_2 != a1_2) = true := bne_iff_ne.mpr c11
  obtain rfl := Option.some.inj H
  have hnb15 := NB101_102.out
  have hnc15 := NB102_101.out
  have hcz16_0 : w5.cell? ⟨gb101, 0, none⟩ = some (.string a0_0) := (ab_ BK101.out 0).trans rfl
  have hcz16_1 : w5.cell? ⟨gb101, 1, none⟩ = some (.int .i64 a0_1) := (ab_ BK101.out 1).trans rfl
  have hcz16_2 : w5.cell? ⟨gb101, 2, none⟩ = some (.int .i64 a0_2) := (ab_ BK101.out 2).trans rfl
  have hfz16_0 := aa_ BK101.out 0
  have hfz16_1 := aa_ BK101.out 1
  have hfz16_2 := aa_ BK101.out 2
  have hcz17_0 : w5.cell? ⟨gb102, 0, none⟩ = some (.string a1_0) := (ab_ BK102.out 0).trans rfl
  have hcz17_1 : w5.cell? ⟨gb102, 1, none⟩ = some (.int .i64 a1_1) := (ab_ BK102.out 1).trans rfl
  have hcz17_2 : w5.cell? ⟨gb102, 2, none⟩ = some (.int .i64 a1_2) := (ab_ BK102.out 2).trans rfl
  have hfz17_0 := aa_ BK102.out 0
  have hfz17_1 := aa_ BK102.out 1
  have hfz17_2 := aa_ BK102.out 2
  go_wp2
  go_ret
  exact ⟨by first | rfl | (simp [*, an_, ao_] <;> rfl), by repeat (first | (with_reducible first | exact HB.out | apply bA_ | apply bN_ | apply bD_ | refine ac_ ?_ GE101.out | refine ac_ ?_ GE102.out) | exact HB.out)⟩
 rw [if_pos c11] at H
 have c11b0 : (a0_2 == a1_2) = true := beq_iff_eq.mpr c11
 have c11b1 : (a0_2 != a1_2) = false := bne_eq_false_iff_eq.mpr c11
 clear c11
 obtain rfl := Option.some.inj H
 have hnb12 := NB101_102.out
 have hnc12 := NB102_101.out
 have hcz13_0 : w5.cell? ⟨gb101, 0, none⟩ = some (.string a0_0) := (ab_ BK101.out 0).trans rfl
 have hcz13_1 : w5.cell? ⟨gb101, 1, none⟩ = some (.int .i64 a0_1) := (ab_ BK101.out 1).trans rfl
 have hcz13_2 : w5.cell? ⟨gb101, 2, none⟩ = some (.int .i64 a0_2) := (ab_ BK101.out 2).trans rfl
 have hfz13_0 := aa_ BK101.out 0
 have hfz13_1 := aa_ BK101.out 1
 have hfz13_2 := aa_ BK101.out 2
 have hcz14_0 : w5.cell? ⟨gb102, 0, none⟩ = some (.string a1_0) := (ab_ BK102.out 0).trans rfl
 have hcz14_1 : w5.cell? ⟨gb102, 1, none⟩ = some (.int .i64 a1_1) := (ab_ BK102.out 1).trans rfl
 have hcz14_2 : w5.cell? ⟨gb102, 2, none⟩ = some (.int .i64 a1_2) := (ab_ BK102.out 2).trans rfl
 have hfz14_0 := aa_ BK102.out 0
 have hfz14_1 := aa_ BK102.out 1
 have hfz14_2 := aa_ BK102.out 2
 go_wp2
 go_ret
 exact ⟨by first | rfl | (simp [*, an_, ao_] <;> rfl), by repeat (first | (with_reducible first | exact HB.out | apply bA_ | apply bN_ | apply bD_ | refine ac_ ?_ GE101.out | refine ac_ ?_ GE102.out) | exact HB.out)⟩
def dm_.f (a0_0 : ByteArray) (a0_1 : ByteArray) (a0_2 : Int) (a0_3 : Int) (a1_0 : ByteArray) (a1_1 : ByteArray) (a1_2 : Int) (a1_3 : Int) : Option (Bool) := if a0_0.toList = a1_0.toList then ((cN_.f a0_1 a0_2 a0_3 a1_1 a1_2 a1_3).bind fun t103 => (if t103 = true then (some true) else (some false))) else (some false)
set_option maxHeartbeats 8000000 in
set_option maxRecDepth 100000 in
theorem dm_.calls (a0_0 : ByteArray) (a0_1 : ByteArray) (a0_2 : Int) (a0_3 : Int) (a1_0 : ByteArray) (a1_1 : ByteArray) (a1_2 : Int) (a1_3 : Int) (r : Bool) (w : World) (h : dm_.f a0_0 a0_1 a0_2 a0_3 a1_0 a1_1 a1_2 a1_3 = some r) :
  Calls Try.prog 42 #[.agg #[.string a0_0, .string a0_1, .int .i64 a0_2, .int .i64 a0_3], .agg #[.string a1_0, .string a1_1, .int .i64 a1_2, .int .i64 a1_3]] w fun e w' => e = .returned (.bool r) ∧ Below w.heap.size w w' := by
 have hu63 := Try.underlying63
 have hu61 := Try.underlying61
 have HB := Aside0.mk (Below.refl w.heap.size w)
 have H : (if a0_0.toList = a1_0.toList then ((cN_.f a0_1 a0_2 a0_3 a1_1 a1_2 a1_3).bind fun t103 => (if t103 = true then (some true) else (some false))) else (some false)) = some r := h
 clear h
 have HC3 := Aside0.mk H
 clear H
 go_enter Try.func42, Try.ntmps42
 go_upto_if 9 with (first | ((with_reducible refine au_ (N := 2) rfl ?_); refine aQ_ ?hg (N := 2) ?hd (cs := #[.string a0_0, .string a0_1, .int .i64 a0_2, .int .i64 a0_3]) (t := 63) ?hr ?_; (case hd => rfl); (case hg => rfl); (case hr => (go_simp; try rfl)); intro gb101 hg w4 hbox hb; have BK101 := Aside0.mk (hbox); have GW101 := Aside0.mk ((by rw [hg]; exact (ae_ (bz HB.out)) : w.heap.size ≤ gb101)); have GE101 := Aside0.mk ((by rw [hg]; exact (ae_ (bz HB.out)) : w.heap.size ≤ gb101)); replace HB := Aside0.mk (ag_ (bz HB.out) hb); clear hb hbox hg) | ((with_reducible refine au_ (N := 3) rfl ?_); refine aQ_ ?hg (N := 3) ?hd (cs := #[.string a1_0, .string a1_1, .int .i64 a1_2, .int .i64 a1_3]) (t := 63) ?hr ?_; (case hd => rfl); (case hg => rfl); (case hr => (go_simp; try rfl)); intro gb102 hg w5 hbox hb; have BK102 := Aside0.mk (hbox); have GW102 := Aside0.mk ((by rw [hg]; exact (ae_ (by repeat (first | (with_reducible first | exact HB.out | apply bA_ | apply bN_ | apply bD_ | refine ac_ ?_ GE101.out) | exact HB.out))) : w.heap.size ≤ gb102)); have GE102 := Aside0.mk ((by rw [hg]; exact (ae_ (by repeat (first | (with_reducible first | exact HB.out | apply bA_ | apply bN_ | apply bD_ | refine ac_ ?_ GE101.out) | exact HB.out))) : w.heap.size ≤ gb102)); replace HB := Aside0.mk (ag_ (by repeat (first | (with_reducible first | exact HB.out | apply bA_ | apply bN_ | apply bD_ | refine ac_ ?_ GE101.out) | exact HB.out)) hb); have NB101_102 := Aside0.mk ((by rw [hg]; exact Nat.ne_of_lt (bM_ (g := gb101) (o := .cells #[.string a0_0, .string a0_1, .int .i64 a0_2, .int .i64 a0_3] 63 (0, 0)) (kz BK101.out)) : gb101 ≠ gb102)); have NB102_101 := Aside0.mk ((by rw [hg]; exact Nat.ne_of_gt (bM_ (g := gb101) (o := .cells #[.string a0_0, .string a0_1, .int .i64 a0_2, .int .i64 a0_3] 63 (0, 0)) (kz BK101.out)) : gb102 ≠ gb101)); replace BK101 := Aside0.mk (aG_ (g := gb101) (o := .cells #[.string a0_0, .string a0_1, .int .i64 a0_2, .int .i64 a0_3] 63 (0, 0)) (kz BK101.out) hb); clear hb hbox hg; have hnb6 := NB101_102.out; have hnc6 := NB102_101.out; have hcz7_0 : w5.cell? ⟨gb101, 0, none⟩ = some (.string a0_0) := (ab_ BK101.out 0).trans rfl; have hcz7_1 : w5.cell? ⟨gb101, 1, none⟩ = some (.string a0_1) := (ab_ BK101.out 1).trans rfl; have hcz7_2 : w5.cell? ⟨gb101, 2, none⟩ = some (.int .i64 a0_2) := (ab_ BK101.out 2).trans rfl; have hcz7_3 : w5.cell? ⟨gb101, 3, none⟩ = some (.int .i64 a0_3) := (ab_ BK101.out 3).trans rfl; have hfz7_0 := aa_ BK101.out 0; have hfz7_1 := aa_ BK101.out 1; have hfz7_2 := aa_ BK101.out 2; have hfz7_3 := aa_ BK101.out 3; have hcz8_0 : w5.cell? ⟨gb102, 0, none⟩ = some (.string a1_0) := (ab_ BK102.out 0).trans rfl; have hcz8_1 : w5.cell? ⟨gb102, 1, none⟩ = some (.string a1_1) := (ab_ BK102.out 1).trans rfl; have hcz8_2 : w5.cell? ⟨gb102, 2, none⟩ = some (.int .i64 a1_2) := (ab_ BK102.out 2).trans rfl; have hcz8_3 : w5.cell? ⟨gb102, 3, none⟩ = some (.int .i64 a1_3) := (ab_ BK102.out 3).trans rfl; have hfz8_0 := aa_ BK102.out 0; have hfz8_1 := aa_ BK102.out 1; have hfz8_2 := aa_ BK102.out 2; have hfz8_3 := aa_ BK102.out 3))
 (try simp only [Act.put, lsa_, ls0_, ls1_])
 have H := HC3.out
 clear HC3
 by_cases c9 : a0_0.toList = a1_0.toList
 rotate_left
 ·rw [if_neg c9] at H
  have c9b0 : (a0_0.toList == a1_0.toList) = false := beq_eq_false_iff_ne.mpr c9
  have c9b1 : (a0_0.toList != a1_0.toList) = true := bne_iff_ne.mpr c9
  (first | rw [c9b0] | (simp only [i64_w, i32_w]; rw [c9b0]) | (simp only [c9b1, Bool.not_true, Bool.not_false]) | (simp only [c9b0, Bool.not_true, Bool.not_false]) | skip)
  obtain rfl := Option.some.inj H
  go_wp2
  go_ret
  exact ⟨by first | rfl | (simp [*, an_, ao_] <;> rfl), by repeat (first | (with_reducible first | exact HB.out | apply bA_ | apply bN_ | apply bD_ | refine ac_ ?_ GE101.out | refine ac_ ?_ GE102.out) | exact HB.out)⟩
 rw [if_pos c9] at H
 have c9b0 : (a0_0.toList == a1_0.toList) = true := beq_iff_eq.mpr c9
 have c9b1 : (a0_0.toList != a1_0.toList) = false := bne_eq_false_iff_eq.mpr c9
 clear c9
 (first | rw [c9b0] | (simp only [i64_w, i32_w]; rw [c9b0]) | (simp only [c9b1, Bool.not_true, Bool.not_false]) | (simp only [c9b0, Bool.not_true, Bool.not_false]) | skip)
 replace H := Option.bind_eq_some_iff.mp H
 obtain ⟨t103, A100, H⟩ := H
 (try dsimp only at H)
 have A10 := Aside0.mk A100
 clear A100
 have HC11 := Aside0.mk H
 clear H
 have hnb12 := NB101_102.out
 have hnc12 := NB102_101.out
 have hcz13_0 : w5.cell? ⟨gb101, 0, none⟩ = some (.string a0_0) := (ab_ BK101.out 0).trans rfl
 have hcz13_1 : w5.cell? ⟨gb101, 1, none⟩ = some (.string a0_1) := (ab_ BK101.out 1).trans rfl
 have hcz13_2 : w5.cell? ⟨gb101, 2, none⟩ = some (.int .i64 a0_2) := (ab_ BK101.out 2).trans rfl
 have hcz13_3 : w5.cell? ⟨gb101, 3, none⟩ = some (.int .i64 a0_3) := (ab_ BK101.out 3).trans rfl
 have hfz13_0 := aa_ BK101.out 0
 have hfz13_1 := aa_ BK101.out 1
 have hfz13_2 := aa_ BK101.out 2
 have hfz13_3 := aa_ BK101.out 3
 have hcz14_0 : w5.cell? ⟨gb102, 0, none⟩ = some (.string a1_0) := (ab_ BK102.out 0).trans rfl
 have hcz14_1 : w5.cell? ⟨gb102, 1, none⟩ = some (.string a1_1) := (ab_ BK102.out 1).trans rfl
 have hcz14_2 : w5.cell? ⟨gb102, 2, none⟩ = some (.int .i64 a1_2) := (ab_ BK102.out 2).trans rfl
 have hcz14_3 : w5.cell? ⟨gb102, 3, none⟩ = some (.int .i64 a1_3) := (ab_ BK102.out 3).trans rfl
 have hfz14_0 := aa_ BK102.out 0
 have hfz14_1 := aa_ BK102.out 1
 have hfz14_2 := aa_ BK102.out 2
 have hfz14_3 := aa_ BK102.out 3
 go_upto_if 15 with (first | ((with_reducible refine am_ (f := 73) rfl ?_); refine aX_ (some 14) rfl rfl Try.func73 (by kernel_rfl) rfl #[.agg #[.string a0_1, .int .i64 a0_2, .int .i64 a0_3], .agg #[.string a1_1, .int .i64 a1_2, .int .i64 a1_3]] rfl (by first | rfl | (simp only [List.map_toArray, List.map_cons, List.map_nil]; first | done | rfl)) ?_; (with_reducible refine (cN_.calls a0_1 a0_2 a0_3 a1_1 a1_2 a1_3 t103 _ A10.out).mono ?_); rintro e w15 ⟨rfl, hb⟩; refine ⟨_, rfl, ?_⟩; replace BK101 := Aside0.mk (aG_ (g := gb101) (o := .cells #[.string a0_0, .string a0_1, .int .i64 a0_2, .int .i64 a0_3] 63 (0, 0)) (kz BK101.out) hb); replace BK102 := Aside0.mk (aG_ (g := gb102) (o := .cells #[.string a1_0, .string a1_1, .int .i64 a1_2, .int .i64 a1_3] 63 (0, 0)) (kz BK102.out) hb); replace HB := Aside0.mk (ag_ (by repeat (first | (with_reducible first | exact HB.out | apply bA_ | apply bN_ | apply bD_ | refine ac_ ?_ GE101.out | refine ac_ ?_ GE102.out) | exact HB.out)) hb); (try clear hb)))
 (try simp only [Act.put, lsa_, ls0_, ls1_])
 have H := HC11.out
 clear HC11
 by_cases c16 : t103 = true
 rotate_left
 ·replace c16 := Bool.eq_false_iff.mpr c16
  subst c16
  have H1 : (some false) = some r := by rw [if_neg (show ¬ (false = true) by decide)] at H; exact H
  clear H
  have H := H1
  clear H1
  obtain rfl := Option.some.inj H
  go_wp2
  go_ret
  exact ⟨by first | rfl | (simp [*, an_, ao_] <;> rfl), by repeat (first | (with_reducible first | exact HB.out | apply bA_ | apply bN_ | apply bD_ | refine ac_ ?_ GE101.out | refine ac_ ?_ GE102.out) | exact HB.out)⟩
 subst c16
 have H1 : (some true) = some r := by rw [if_pos rfl] at H; exact H
 clear H
 have H := H1
 clear H1
 obtain rfl := Option.some.inj H
 go_wp2
 go_ret
 exact ⟨by first | rfl | (simp [*, an_, ao_] <;> rfl), by repeat (first | (with_reducible first | exact HB.out | apply bA_ | apply bN_ | apply bD_ | refine ac_ ?_ GE101.out | refine ac_ ?_ GE102.out) | exact HB.out)⟩
def bt_.l0 : Nat → List (S63) → List (S63) → Int → Option (Bool)
 | 0, _, _, _ => none
 | k + 1, x0, x1, x5 => if x5 < (x0.length : Int) then (if 0 ≤ x5 then (if x5 < (x1.length : Int) then ((dm_.f ((af_ x0 x5).f0) ((af_ x0 x5).f1.f0) ((af_ x0 x5).f1.f1) ((af_ x0 x5).f1.f2) ((af_ x1 x5).f0) ((af_ x1 x5).f1.f0) ((af_ x1 x5).f1.f1) ((af_ x1 x5).f1.f2)).bind fun t103 => (if t103 = true then (bt_.l0 k x0 x1 (wrap64 (x5 + 1))) else (some false))) else (none)) else (none)) else (some true)
def bt_.f (k : Nat) (l0 : List (S63)) (l1 : List (S63)) : Option (Bool) := if (l0.length : Int) = (l1.length : Int) then (bt_.l0 k l0 l1 0) else (some false)
def bt_.T6 : Bool × List (List Nat × List Nat) := (true, [([], []), ([], []), ([0, 1], [0, 1]), ([2], [2]), ([], []), ([], []), ([4, 5], [4, 5]), ([6], [6]), ([3, 7], [3, 7]), ([8], [8])])
def bt_.B6 : List Nat := [0, 0, 3, 7, 0, 0, 48, 112, 255, 511]
theorem bt_.tab6 : rtab .any (opsOf Try.f12 6) = bt_.T6 := by kernel_rfl
theorem bt_.bits6 : dy_ bt_.T6.2 bt_.B6 = true := by kernel_rfl
set_option maxHeartbeats 8000000 in
set_option maxRecDepth 100000 in
theorem bt_.calls (k : Nat) (A0 : Option Addr) (c0 : Nat) (l0 : List (S63)) (A1 : Option Addr) (c1 : Nat) (l1 : List (S63)) (r : Bool) (w : World) (hr0 : Kd.C k63 w A0 l0.length l0) (hc0 : l0.length ≤ c0) (hr1 : Kd.C k63 w A1 l1.length l1) (hc1 : l1.length ≤ c1) (h : bt_.f k l0 l1 = some r) :
  Calls Try.prog 12 #[.slice A0 l0.length c0, .slice A1 l1.length c1] w fun e w' => e = .returned (.bool r) ∧ Below w.heap.size w w' := by
 have hu63 := Try.underlying63
 have HR0 := Aside0.mk hr0
 have HC0 := Aside0.mk hc0
 clear hr0 hc0
 have HR1 := Aside0.mk hr1
 have HC1 := Aside0.mk hc1
 clear hr1 hc1
 have HB := Aside0.mk (Below.refl w.heap.size w)
 have H : (if (l0.length : Int) = (l1.length : Int) then (bt_.l0 k l0 l1 0) else (some false)) = some r := h
 clear h
 by_cases c3 : (l0.length : Int) = (l1.length : Int)
 rotate_left
 ·rw [if_neg c3] at H
  have c3b0 : ((l0.length : Int) == (l1.length : Int)) = false := beq_eq_false_iff_ne.mpr c3
  have c3b1 : ((l0.length : Int) != (l1.length : Int)) = true := bne_iff_ne.mpr c3
  have c3b2 : (l0.length == l1.length) = false := by first | simpa using c3 | (simp at c3 ⊢; omega)
  obtain rfl := Option.some.inj H
  go_enter Try.func12, Try.ntmps12
  go_wp2
  go_ret
  exact ⟨by first | rfl | (simp [*, an_, ao_] <;> rfl), bz HB.out⟩
 rw [if_pos c3] at H
 have c3b0 : ((l0.length : Int) == (l1.length : Int)) = true := beq_iff_eq.mpr c3
 have c3b1 : ((l0.length : Int) != (l1.length : Int)) = false := bne_eq_false_iff_eq.mpr c3
 have c3b2 : (l0.length == l1.length) = true := by first | simpa using c3 | (simp at c3 ⊢; omega)
 clear c3
 have H' := Aside0.mk H
 clear H
 go_enter Try.func12, Try.ntmps12
 go_wp2
 (try simp only [Act.put, lsa_, ls0_, ls1_])
 go_loopg [5] k (fun kq v5 w' => ∃ (x5_1 : Int), v5 = .int .i64 x5_1 ∧ Aside0 (bt_.l0 kq l0 l1 x5_1 = some r) ∧ Aside0 (kq ≤ k) ∧ Aside0 (Below w.heap.size w w'))
 case atStart => exact ⟨(0), (by first | rfl | (simp; done) | (simp [*]; done)), H', ⟨Nat.le_refl _⟩, ⟨bz HB.out⟩⟩
 case round =>
  clear H'
  obtain ⟨x5_1, rfl, HA, HK1, HB⟩ := hrel
  cases gk with
  | zero => exact absurd HA.out (by simp [bt_.l0])
  | succ k1 =>
   have H := HA.out
   clear HA
   simp only [bt_.l0] at H
   by_cases c4 : x5_1 < (l0.length : Int)
   rotate_left
   ·rw [if_neg c4] at H
    have c4b0 : decide (x5_1 < (l0.length : Int)) = false := decide_eq_false c4
    clear c4
    obtain rfl := Option.some.inj H
    go_wp2
    go_ret
    exact ⟨by first | rfl | (simp [*, an_, ao_] <;> rfl), bz HB.out⟩
   rw [if_pos c4] at H
   have c4b0 : decide (x5_1 < (l0.length : Int)) = true := decide_eq_true c4
   clear c4
   by_cases c5 : 0 ≤ x5_1
   rotate_left
   ·rw [if_neg c5] at H
    exact absurd H (by simp)
   rw [if_pos c5] at H
   have c5b0 : decide (0 ≤ x5_1) = true := decide_eq_true c5
   clear c5
   by_cases c6 : x5_1 < (l1.length : Int)
   rotate_left
   ·rw [if_neg c6] at H
    exact absurd H (by simp)
   rw [if_pos c6] at H
   have c6b0 : decide (x5_1 < (l1.length : Int)) = true := decide_eq_true c6
   clear c6
   replace H := Option.bind_eq_some_iff.mp H
   obtain ⟨t103, A70, H⟩ := H
   (try dsimp only at H)
   have A7 := Aside0.mk A70
   clear A70
   have HC8 := Aside0.mk H
   clear H
   try go_wp2
   have n0_ := Aside0.mk (bD_ HB.out)
   clear HB
   have HB := n0_
   clear n0_
   have p101 : 0 ≤ (x5_1 : Int) := of_decide_eq_true (by assumption)
   have q101 : x5_1 < (l0.length : Int) := of_decide_eq_true (by assumption)
   obtain ⟨ad101, e101, hx101_0, hx101_1, hx101_2, hx101_3⟩ := cm_ HR0.out x5_1 p101 q101
   have hw101_3 := hx101_3
   have hw101_2 := hx101_2
   have hw101_1 := hx101_1
   have hw101_0 := hx101_0
   cases e101
   replace hx101_0 := (HB.out.cell (bl_ w _ hx101_0)).trans hx101_0
   replace hx101_1 := (HB.out.cell (bl_ w _ hx101_1)).trans hx101_1
   replace hx101_2 := (HB.out.cell (bl_ w _ hx101_2)).trans hx101_2
   replace hx101_3 := (HB.out.cell (bl_ w _ hx101_3)).trans hx101_3
   replace p101 := eq_true p101
   replace q101 := eq_true q101
   have p102 : 0 ≤ (x5_1 : Int) := of_decide_eq_true (by assumption)
   have q102 : x5_1 < (l1.length : Int) := of_decide_eq_true (by assumption)
   obtain ⟨ad102, e102, hx102_0, hx102_1, hx102_2, hx102_3⟩ := cm_ HR1.out x5_1 p102 q102
   have hw102_3 := hx102_3
   have hw102_2 := hx102_2
   have hw102_1 := hx102_1
   have hw102_0 := hx102_0
   cases e102
   replace hx102_0 := (HB.out.cell (bl_ w _ hx102_0)).trans hx102_0
   replace hx102_1 := (HB.out.cell (bl_ w _ hx102_1)).trans hx102_1
   replace hx102_2 := (HB.out.cell (bl_ w _ hx102_2)).trans hx102_2
   replace hx102_3 := (HB.out.cell (bl_ w _ hx102_3)).trans hx102_3
   replace p102 := eq_true p102
   replace q102 := eq_true q102
   refine start_ (n := 10) (S := fun w' => w'.cell? (ad101.add ((x5_1).toNat * 4)) = some (.string ((af_ l0 x5_1).f0)) ∧ w'.cell? ⟨(ad101.add ((x5_1).toNat * 4)).block, (ad101.add ((x5_1).toNat * 4)).off + 1, none⟩ = some (.string ((af_ l0 x5_1).f1.f0)) ∧ w'.cell? ⟨(ad101.add ((x5_1).toNat * 4)).block, (ad101.add ((x5_1).toNat * 4)).off + 2, none⟩ = some (.int .i64 ((af_ l0 x5_1).f1.f1)) ∧ w'.cell? ⟨(ad101.add ((x5_1).toNat * 4)).block, (ad101.add ((x5_1).toNat * 4)).off + 3, none⟩ = some (.int .i64 ((af_ l0 x5_1).f1.f2)) ∧ w'.cell? (ad102.add ((x5_1).toNat * 4)) = some (.string ((af_ l1 x5_1).f0)) ∧ w'.cell? ⟨(ad102.add ((x5_1).toNat * 4)).block, (ad102.add ((x5_1).toNat * 4)).off + 1, none⟩ = some (.string ((af_ l1 x5_1).f1.f0)) ∧ w'.cell? ⟨(ad102.add ((x5_1).toNat * 4)).block, (ad102.add ((x5_1).toNat * 4)).off + 2, none⟩ = some (.int .i64 ((af_ l1 x5_1).f1.f1)) ∧ w'.cell? ⟨(ad102.add ((x5_1).toNat * 4)).block, (ad102.add ((x5_1).toNat * 4)).off + 3, none⟩ = some (.int .i64 ((af_ l1 x5_1).f1.f2))) (ds := []) #[f_,f_,f_,f_,f_,f_,f_,f_,f_,f_] (by kernel_rfl) rfl rfl ⟨((HB.out.cell (bl_ w _ hw101_0)).trans hw101_0), ((HB.out.cell (bl_ w _ hw101_1)).trans hw101_1), ((HB.out.cell (bl_ w _ hw101_2)).trans hw101_2), ((HB.out.cell (bl_ w _ hw101_3)).trans hw101_3), ((HB.out.cell (bl_ w _ hw102_0)).trans hw102_0), ((HB.out.cell (bl_ w _ hw102_1)).trans hw102_1), ((HB.out.cell (bl_ w _ hw102_2)).trans hw102_2), ((HB.out.cell (bl_ w _ hw102_3)).trans hw102_3)⟩ (fun hHeld => ?_); refine cS_ bt_.tab6 bt_.bits6 (fun HT_ HW_ => ?_)
   generalize wr.drew = w9 at HB hx101_0 hx101_1 hx101_2 hx101_3 hx102_0 hx102_1 hx102_2 hx102_3 hHeld ⊢
   refine pure_ (i := 0) (N := some 17) (v := ?_) (a' := ?_) #[t_,f_,f_,f_,f_,f_,f_,f_,f_,f_] rfl rfl (aF_ HT_.out (by kernel_rfl)) (fun _ _ _ h => h) (Or.inl ⟨by rfl, ?_⟩) ?_ ?_
   rotate_left
   ·intro w'
    go_simp
    with_reducible rfl
   rotate_left
   ·simp only [Act.put, lsa_, ls0_, ls1_, i64_w, i32_w]
    rfl
   refine pure_ (i := 1) (N := some 18) (v := ?_) (a' := ?_) #[t_,t_,f_,f_,f_,f_,f_,f_,f_,f_] rfl rfl (aF_ HT_.out (by kernel_rfl)) (fun _ _ _ h => h) (Or.inl ⟨by rfl, ?_⟩) ?_ ?_
   rotate_left
   ·intro w'
    go_simp
    with_reducible rfl
   rotate_left
   ·simp only [Act.put, lsa_, ls0_, ls1_, i64_w, i32_w]
    rfl
   refine pure_ (i := 2) (N := some 19) (v := ?_) (a' := ?_) #[t_,t_,t_,f_,f_,f_,f_,f_,f_,f_] rfl rfl (aF_ HT_.out (by kernel_rfl)) (fun _ _ _ h => h) (Or.inl ⟨by rfl, ?_⟩) ?_ ?_
   rotate_left
   ·intro w'
    go_simp
    with_reducible rfl
   rotate_left
   ·simp only [Act.put, lsa_, ls0_, ls1_, i64_w, i32_w]
    rfl
   refine pure_ (i := 4) (N := some 21) (v := ?_) (a' := ?_) #[t_,t_,t_,f_,t_,f_,f_,f_,f_,f_] rfl rfl (aF_ HT_.out (by kernel_rfl)) (fun _ _ _ h => h) (Or.inl ⟨by rfl, ?_⟩) ?_ ?_
   rotate_left
   ·intro w'
    go_simp
    with_reducible rfl
   rotate_left
   ·simp only [Act.put, lsa_, ls0_, ls1_, i64_w, i32_w]
    rfl
   refine pure_ (i := 5) (N := some 22) (v := ?_) (a' := ?_) #[t_,t_,t_,f_,t_,t_,f_,f_,f_,f_] rfl rfl (aF_ HT_.out (by kernel_rfl)) (fun _ _ _ h => h) (Or.inl ⟨by rfl, ?_⟩) ?_ ?_
   rotate_left
   ·intro w'
    go_simp
    with_reducible rfl
   rotate_left
   ·simp only [Act.put, lsa_, ls0_, ls1_, i64_w, i32_w]
    rfl
   refine pure_ (i := 6) (N := some 23) (v := ?_) (a' := ?_) #[t_,t_,t_,f_,t_,t_,t_,f_,f_,f_] rfl rfl (aF_ HT_.out (by kernel_rfl)) (fun _ _ _ h => h) (Or.inl ⟨by rfl, ?_⟩) ?_ ?_
   rotate_left
   ·intro w'
    go_simp
    with_reducible rfl
   rotate_left
   ·simp only [Act.put, lsa_, ls0_, ls1_, i64_w, i32_w]
    rfl
   refine take_ (i := 3) (N := some 20) (v := ?_) (a' := ?_) #[t_,t_,t_,t_,t_,t_,t_,f_,f_,f_] rfl rfl (cJ_ HT_.out HW_.out (by kernel_rfl)) (fun _ _ _ h => h) (Or.inl ⟨by rfl, ?_⟩) hHeld ?_ ?_
   rotate_left
   ·rintro w' ⟨s0, s1, s2, s3, s4, s5, s6, s7⟩
    go_simp
    with_reducible rfl
   rotate_left
   ·simp only [Act.put, lsa_, ls0_, ls1_, i64_w, i32_w]
    rfl
   refine take_ (i := 7) (N := some 24) (v := ?_) (a' := ?_) #[t_,t_,t_,t_,t_,t_,t_,t_,f_,f_] rfl rfl (cJ_ HT_.out HW_.out (by kernel_rfl)) (fun _ _ _ h => h) (Or.inl ⟨by rfl, ?_⟩) hHeld ?_ ?_
   rotate_left
   ·rintro w' ⟨s0, s1, s2, s3, s4, s5, s6, s7⟩
    go_simp
    with_reducible rfl
   rotate_left
   ·simp only [Act.put, lsa_, ls0_, ls1_, i64_w, i32_w]
    rfl
   refine one_ (i := 8) (N := some 25) #[t_,t_,t_,t_,t_,t_,t_,t_,t_,f_] rfl rfl (dD_ HT_.out (by kernel_rfl)) (by decide) (fun K hK => ?_)
   (first | refine goes_ Try.func42 (by kernel_rfl) rfl #[.agg #[.string ((af_ l0 x5_1).f0), .string ((af_ l0 x5_1).f1.f0), .int .i64 ((af_ l0 x5_1).f1.f1), .int .i64 ((af_ l0 x5_1).f1.f2)], .agg #[.string ((af_ l1 x5_1).f0), .string ((af_ l1 x5_1).f1.f0), .int .i64 ((af_ l1 x5_1).f1.f1), .int .i64 ((af_ l1 x5_1).f1.f2)]] (by rfl) rfl rfl (by first | rfl | (simp only [List.map_toArray, List.map_cons, List.map_nil]; first | done | rfl)) ?_ | refine RPW.goesV_ Try.func42 (by kernel_rfl) rfl #[.agg #[.string ((af_ l0 x5_1).f0), .string ((af_ l0 x5_1).f1.f0), .int .i64 ((af_ l0 x5_1).f1.f1), .int .i64 ((af_ l0 x5_1).f1.f2)], .agg #[.string ((af_ l1 x5_1).f0), .string ((af_ l1 x5_1).f1.f0), .int .i64 ((af_ l1 x5_1).f1.f1), .int .i64 ((af_ l1 x5_1).f1.f2)]] (by rfl) rfl rfl rfl (by first | rfl | (simp only [List.map_toArray, List.map_cons, List.map_nil]; first | done | rfl)) ?_ | refine RPW.goesC_ Try.func42 (by kernel_rfl) rfl #[.agg #[.string ((af_ l0 x5_1).f0), .string ((af_ l0 x5_1).f1.f0), .int .i64 ((af_ l0 x5_1).f1.f1), .int .i64 ((af_ l0 x5_1).f1.f2)], .agg #[.string ((af_ l1 x5_1).f0), .string ((af_ l1 x5_1).f1.f0), .int .i64 ((af_ l1 x5_1).f1.f1), .int .i64 ((af_ l1 x5_1).f1.f2)]] (by rfl) rfl rfl rfl (by first | rfl | (simp only [List.map_toArray, List.map_cons, List.map_nil]; first | done | rfl)) ?_)
   with_reducible refine (dm_.calls ((af_ l0 x5_1).f0) ((af_ l0 x5_1).f1.f0) ((af_ l0 x5_1).f1.f1) ((af_ l0 x5_1).f1.f2) ((af_ l1 x5_1).f0) ((af_ l1 x5_1).f1.f0) ((af_ l1 x5_1).f1.f1) ((af_ l1 x5_1).f1.f2) t103 _ A7.out).mono ?_
   rintro e w10 ⟨rfl, hb⟩
   refine ⟨_, rfl, ?_⟩
   have n0_ := Aside0.mk (ag_ (bz HB.out) hb)
   clear HB
   have HB := n0_
   clear n0_
   (try clear hb)
   refine hK.out _ _ ⟨((HB.out.cell (bl_ w _ hw101_0)).trans hw101_0), ((HB.out.cell (bl_ w _ hw101_1)).trans hw101_1), ((HB.out.cell (bl_ w _ hw101_2)).trans hw101_2), ((HB.out.cell (bl_ w _ hw101_3)).trans hw101_3), ((HB.out.cell (bl_ w _ hw102_0)).trans hw102_0), ((HB.out.cell (bl_ w _ hw102_1)).trans hw102_1), ((HB.out.cell (bl_ w _ hw102_2)).trans hw102_2), ((HB.out.cell (bl_ w _ hw102_3)).trans hw102_3)⟩ (fun hHeld => ?_)
   clear hK K
   refine norm_ (a' := ?_) ?_ ?_
   rotate_left
   ·show Act.put _ (some 25) _ = _
    simp only [Act.put, lsa_, ls0_, ls1_, i64_w, i32_w]
    rfl
   refine pure_ (i := 9) (N := some 26) (v := ?_) (a' := ?_) #[t_,t_,t_,t_,t_,t_,t_,t_,t_,t_] rfl rfl (aF_ HT_.out (by kernel_rfl)) (fun _ _ _ h => h) (Or.inl ⟨by rfl, ?_⟩) ?_ ?_
   rotate_left
   ·intro w'
    go_simp
    with_reducible rfl
   rotate_left
   ·simp only [Act.put, lsa_, ls0_, ls1_, i64_w, i32_w]
    rfl
   refine done_ (dA_ HT_.out (by kernel_rfl)) ?_
   go_upto_if 26 with (fail)
   have H := HC8.out
   clear HC8
   by_cases c11 : t103 = true
   rotate_left
   ·replace c11 := Bool.eq_false_iff.mpr c11
    subst c11
    have H1 : (some false) = some r := by rw [if_neg (show ¬ (false = true) by decide)] at H; exact H
    clear H
    have H := H1
    clear H1
    obtain rfl := Option.some.inj H
    go_wp2
    go_ret
    exact ⟨by first | rfl | (simp [*, an_, ao_] <;> rfl), bz HB.out⟩
   subst c11
   have H1 : (bt_.l0 k1 l0 l1 (wrap64 (x5_1 + 1))) = some r := by rw [if_pos rfl] at H; exact H
   clear H
   have H := H1
   clear H1
   have H' := Aside0.mk H
   clear H
   go_wp2
   go_roundg k1
   case measure => have := HK1.out; omega
   case rel => exact ⟨(wrap64 (x5_1 + 1)), (by first | rfl | (simp; done) | (simp [*]; done)), H', ⟨by have := HK1.out; omega⟩, ⟨bz HB.out⟩⟩
def cT_.f (k : Nat) (a0_0 : Int) (a0_1 : Int) (a0_2 : ByteArray) (l0_3 : List (S63)) (a1_0 : Int) (a1_1 : Int) (a1_2 : ByteArray) (l1_3 : List (S63)) : Option (Bool) := if a0_0 = a1_0 then (if a0_1 = a1_1 then (if a0_2.toList = a1_2.toList then ((bt_.f k l0_3 l1_3).bind fun t103 => (if t103 = true then (some true) else (some false))) else (some false)) else (some false)) else (some false)
set_option maxHeartbeats 8000000 in
set_option maxRecDepth 100000 in
theorem cT_.calls (k : Nat) (a0_0 : Int) (a0_1 : Int) (a0_2 : ByteArray) (A0_3 : Option Addr) (c0_3 : Nat) (l0_3 : List (S63)) (a1_0 : Int) (a1_1 : Int) (a1_2 : ByteArray) (A1_3 : Option Addr) (c1_3 : Nat) (l1_3 : List (S63)) (r : Bool) (w : World) (hr0_3 : Kd.C k63 w A0_3 l0_3.length l0_3) (hc0_3 : l0_3.length ≤ c0_3) (hr1_3 : Kd.C k63 w A1_3 l1_3.length l1_3) (hc1_3 : l1_3.length ≤ c1_3) (h : cT_.f k a0_0 a0_1 a0_2 l0_3 a1_0 a1_1 a1_2 l1_3 = some r) :
  Calls Try.prog 58 #[.agg #[.int .i64 a0_0, .int .i64 a0_1, .string a0_2, .slice A0_3 l0_3.length c0_3], .agg #[.int .i64 a1_0, .int .i64 a1_1, .string a1_2, .slice A1_3 l1_3.length c1_3]] w fun e w' => e = .returned (.bool r) ∧ Below w.heap.size w w' := by
 have hu78 := Try.underlying78
 have HR0_3 := Aside0.mk hr0_3
 have HC0_3 := Aside0.mk hc0_3
 clear hr0_3 hc0_3
 have HR1_3 := Aside0.mk hr1_3
 have HC1_3 := Aside0.mk hc1_3
 clear hr1_3 hc1_3
 have HB := Aside0.mk (Below.refl w.heap.size w)
 have H : (if a0_0 = a1_0 then (if a0_1 = a1_1 then (if a0_2.toList = a1_2.toList then ((bt_.f k l0_3 l1_3).bind fun t103 => (if t103 = true then (some true) else (some false))) else (some false)) else (some false)) else (some false)) = some r := h
 clear h
 have HC3 := Aside0.mk H
 clear H
 go_enter Try.func58, Try.ntmps58
 go_upto_if 9 with (first | ((with_reducible refine au_ (N := 2) rfl ?_); refine aQ_ ?hg (N := 2) ?hd (cs := #[.int .i64 a0_0, .int .i64 a0_1, .string a0_2, .slice A0_3 l0_3.length c0_3]) (t := 78) ?hr ?_; (case hd => rfl); (case hg => rfl); (case hr => (go_simp; try rfl)); intro gb101 hg w4 hbox hb; have BK101 := Aside0.mk (hbox); have GW101 := Aside0.mk ((by rw [hg]; exact (ae_ (bz HB.out)) : w.heap.size ≤ gb101)); have GE101 := Aside0.mk ((by rw [hg]; exact (ae_ (bz HB.out)) : w.heap.size ≤ gb101)); replace HB := Aside0.mk (ag_ (bz HB.out) hb); clear hb hbox hg) | ((with_reducible refine au_ (N := 3) rfl ?_); refine aQ_ ?hg (N := 3) ?hd (cs := #[.int .i64 a1_0, .int .i64 a1_1, .string a1_2, .slice A1_3 l1_3.length c1_3]) (t := 78) ?hr ?_; (case hd => rfl); (case hg => rfl); (case hr => (go_simp; try rfl)); intro gb102 hg w5 hbox hb; have BK102 := Aside0.mk (hbox); have GW102 := Aside0.mk ((by rw [hg]; exact (ae_ (by repeat (first | (with_reducible first | exact HB.out | apply bA_ | apply bN_ | apply bD_ | refine ac_ ?_ GE101.out) | exact HB.out))) : w.heap.size ≤ gb102)); have GE102 := Aside0.mk ((by rw [hg]; exact (ae_ (by repeat (first | (with_reducible first | exact HB.out | apply bA_ | apply bN_ | apply bD_ | refine ac_ ?_ GE101.out) | exact HB.out))) : w.heap.size ≤ gb102)); replace HB := Aside0.mk (ag_ (by repeat (first | (with_reducible first | exact HB.out | apply bA_ | apply bN_ | apply bD_ | refine ac_ ?_ GE101.out) | exact HB.out)) hb); have NB101_102 := Aside0.mk ((by rw [hg]; exact Nat.ne_of_lt (bM_ (g := gb101) (o := .cells #[.int .i64 a0_0, .int .i64 a0_1, .string a0_2, .slice A0_3 l0_3.length c0_3] 78 (0, 0)) (kz BK101.out)) : gb101 ≠ gb102)); have NB102_101 := Aside0.mk ((by rw [hg]; exact Nat.ne_of_gt (bM_ (g := gb101) (o := .cells #[.int .i64 a0_0, .int .i64 a0_1, .string a0_2, .slice A0_3 l0_3.length c0_3] 78 (0, 0)) (kz BK101.out)) : gb102 ≠ gb101)); replace BK101 := Aside0.mk (aG_ (g := gb101) (o := .cells #[.int .i64 a0_0, .int .i64 a0_1, .string a0_2, .slice A0_3 l0_3.length c0_3] 78 (0, 0)) (kz BK101.out) hb); clear hb hbox hg; have hnb6 := NB101_102.out; have hnc6 := NB102_101.out; have hcz7_0 : w5.cell? ⟨gb101, 0, none⟩ = some (.int .i64 a0_0) := (ab_ BK101.out 0).trans rfl; have hcz7_1 : w5.cell? ⟨gb101, 1, none⟩ = some (.int .i64 a0_1) := (ab_ BK101.out 1).trans rfl; have hcz7_2 : w5.cell? ⟨gb101, 2, none⟩ = some (.string a0_2) := (ab_ BK101.out 2).trans rfl; have hcz7_3 : w5.cell? ⟨gb101, 3, none⟩ = some (.slice A0_3 l0_3.length c0_3) := (ab_ BK101.out 3).trans rfl; have hfz7_0 := aa_ BK101.out 0; have hfz7_1 := aa_ BK101.out 1; have hfz7_2 := aa_ BK101.out 2; have hfz7_3 := aa_ BK101.out 3; have hcz8_0 : w5.cell? ⟨gb102, 0, none⟩ = some (.int .i64 a1_0) := (ab_ BK102.out 0).trans rfl; have hcz8_1 : w5.cell? ⟨gb102, 1, none⟩ = some (.int .i64 a1_1) := (ab_ BK102.out 1).trans rfl; have hcz8_2 : w5.cell? ⟨gb102, 2, none⟩ = some (.string a1_2) := (ab_ BK102.out 2).trans rfl; have hcz8_3 : w5.cell? ⟨gb102, 3, none⟩ = some (.slice A1_3 l1_3.length c1_3) := (ab_ BK102.out 3).trans rfl; have hfz8_0 := aa_ BK102.out 0; have hfz8_1 := aa_ BK102.out 1; have hfz8_2 := aa_ BK102.out 2; have hfz8_3 := aa_ BK102.out 3))
 (try simp only [Act.put, lsa_, ls0_, ls1_])
 have H := HC3.out
 clear HC3
 by_cases c9 : a0_0 = a1_0
 rotate_left
 ·rw [if_neg c9] at H
  have c9b0 : (a0_0 == a1_0) = false := beq_eq_false_iff_ne.mpr c9
  have c9b1 : (a0_0 != a1_0) = true := bne_iff_ne.mpr c9
  (first | rw [c9b0] | (simp only [i64_w, i32_w]; rw [c9b0]) | (simp only [c9b1, Bool.not_true, Bool.not_false]) | (simp only [c9b0, Bool.not_true, Bool.not_false]) | skip)
  obtain rfl := Option.some.inj H
  go_wp2
  go_ret
  exact ⟨by first | rfl | (simp [*, an_, ao_] <;> rfl), by repeat (first | (with_reducible first | exact HB.out | apply bA_ | apply bN_ | apply bD_ | refine ac_ ?_ GE101.out | refine ac_ ?_ GE102.out) | exact HB.out)⟩
 rw [if_pos c9] at H
 have c9b0 : (a0_0 == a1_0) = true := beq_iff_eq.mpr c9
 have c9b1 : (a0_0 != a1_0) = false := bne_eq_false_iff_eq.mpr c9
 clear c9
 (first | rw [c9b0] | (simp only [i64_w, i32_w]; rw [c9b0]) | (simp only [c9b1, Bool.not_true, Bool.not_false]) | (simp only [c9b0, Bool.not_true, Bool.not_false]) | skip)
 by_cases c10 : a0_1 = a1_1
 rotate_left
 ·rw [if_neg c10] at H
  have c10b0 : (a0_1 == a1_1) = false := beq_eq_false_iff_ne.mpr c10
  have c10b1 : (a0_1 != a1_1) = true := bne_iff_ne.mpr c10
  obtain rfl := Option.some.inj H
  have hnb22 := NB101_102.out
  have hnc22 := NB102_101.out
  have hcz23_0 : w5.cell? ⟨gb101, 0, none⟩ = some (.int .i64 a0_0) := (ab_ BK101.out 0).trans rfl
  have hcz23_1 : w5.cell? ⟨gb101, 1, none⟩ = some (.int .i64 a0_1) := (ab_ BK101.out 1).trans rfl
  have hcz23_2 : w5.cell? ⟨gb101, 2, none⟩ = some (.string a0_2) := (ab_ BK101.out 2).trans rfl
  have hcz23_3 : w5.cell? ⟨gb101, 3, none⟩ = some (.slice A0_3 l0_3.length c0_3) := (ab_ BK101.out 3).trans rfl
  have hfz23_0 := aa_ BK101.out 0
  have hfz23_1 := aa_ BK101.out 1
  have hfz23_2 := aa_ BK101.out 2
  have hfz23_3 := aa_ BK101.out 3
  have hcz24_0 : w5.cell? ⟨gb102, 0, none⟩ = some (.int .i64 a1_0) := (ab_ BK102.out 0).trans rfl
  have hcz24_1 : w5.cell? ⟨gb102, 1, none⟩ = some (.int .i64 a1_1) := (ab_ BK102.out 1).trans rfl
  have hcz24_2 : w5.cell? ⟨gb102, 2, none⟩ = some (.string a1_2) := (ab_ BK102.out 2).trans rfl
  have hcz24_3 : w5.cell? ⟨gb102, 3, none⟩ = some (.slice A1_3 l1_3.length c1_3) := (ab_ BK102.out 3).trans rfl
  have hfz24_0 := aa_ BK102.out 0
  have hfz24_1 := aa_ BK102.out 1
  have hfz24_2 := aa_ BK102.out 2
  have hfz24_3 := aa_ BK102.out 3
  go_wp2
  go_ret
  exact ⟨by first | rfl | (simp [*, an_, ao_] <;> rfl), by repeat (first | (with_reducible first | exact HB.out | apply bA_ | apply bN_ | apply bD_ | refine ac_ ?_ GE101.out | refine ac_ ?_ GE102.out) | exact HB.out)⟩
 rw [if_pos c10] at H
 have c10b0 : (a0_1 == a1_1) = true := beq_iff_eq.mpr c10
 have c10b1 : (a0_1 != a1_1) = false := bne_eq_false_iff_eq.mpr c10
 clear c10
 by_cases c11 : a0_2.toList = a1_2.toList
 rotate_left
 ·rw [if_neg c11] at H
  have c11b0 : (a0_2.toList == a1_2.toList) = false := beq_eq_false_iff_ne.mpr c11
  have c11b1 : (a0_2.toList != a1_2.toList) = true := bne_iff_ne.mpr c11
  obtain rfl := Option.some.inj H
  have hnb19 := NB101_102.out
  have hnc19 := NB102_101.out
  have hcz20_0 : w5.cell? ⟨gb101, 0, none⟩ = some (.int .i64 a0_0) := (ab_ BK101.out 0).trans rfl
  have hcz20_1 : w5.cell? ⟨gb101, 1, none⟩ = some (.int .i64 a0_1) := (ab_ BK101.out 1).trans rfl
  have hcz20_2 : w5.cell? ⟨gb101, 2, none⟩ = some (.string a0_2) := (ab_ BK101.out 2).trans rfl
  have hcz20_3 : w5.cell? ⟨gb101, 3, none⟩ = some (.slice A0_3 l0_3.length c0_3) := (ab_ BK101.out 3).trans rfl
  have hfz20_0 := aa_ BK101.out 0
  have hfz20_1 := aa_ BK101.out 1
  have hfz20_2 := aa_ BK101.out 2
  have hfz20_3 := aa_ BK101.out 3
  have hcz21_0 : w5.cell? ⟨gb102, 0, none⟩ = some (.int .i64 a1_0) := (ab_ BK102.out 0).trans rfl
  have hcz21_1 : w5.cell? ⟨gb102, 1, none⟩ = some (.int .i64 a1_1) := (ab_ BK102.out 1).trans rfl
  have hcz21_2 : w5.cell? ⟨gb102, 2, none⟩ = some (.string a1_2) := (ab_ BK102.out 2).trans rfl
  have hcz21_3 : w5.cell? ⟨gb102, 3, none⟩ = some (.slice A1_3 l1_3.length c1_3) := (ab_ BK102.out 3).trans rfl
  have hfz21_0 := aa_ BK102.out 0
  have hfz21_1 := aa_ BK102.out 1
  have hfz21_2 := aa_ BK102.out 2
  have hfz21_3 := aa_ BK102.out 3
  go_wp2
  go_ret
  exact ⟨by first | rfl | (simp [*, an_, ao_] <;> rfl), by repeat (first | (with_reducible first | exact HB.out | apply bA_ | apply bN_ | apply bD_ | refine ac_ ?_ GE101.out | refine ac_ ?_ GE102.out) | exact HB.out)⟩
 rw [if_pos c11] at H
 have c11b0 : (a0_2.toList == a1_2.toList) = true := beq_iff_eq.mpr c11
 have c11b1 : (a0_2.toList != a1_2.toList) = false := bne_eq_false_iff_eq.mpr c11
 clear c11
 replace H := Option.bind_eq_some_iff.mp H
 obtain ⟨t103, A120, H⟩ := H
 (try dsimp only at H)
 have A12 := Aside0.mk A120
 clear A120
 have HC13 := Aside0.mk H
 clear H
 have hnb14 := NB101_102.out
 have hnc14 := NB102_101.out
 have hcz15_0 : w5.cell? ⟨gb101, 0, none⟩ = some (.int .i64 a0_0) := (ab_ BK101.out 0).trans rfl
 have hcz15_1 : w5.cell? ⟨gb101, 1, none⟩ = some (.int .i64 a0_1) := (ab_ BK101.out 1).trans rfl
 have hcz15_2 : w5.cell? ⟨gb101, 2, none⟩ = some (.string a0_2) := (ab_ BK101.out 2).trans rfl
 have hcz15_3 : w5.cell? ⟨gb101, 3, none⟩ = some (.slice A0_3 l0_3.length c0_3) := (ab_ BK101.out 3).trans rfl
 have hfz15_0 := aa_ BK101.out 0
 have hfz15_1 := aa_ BK101.out 1
 have hfz15_2 := aa_ BK101.out 2
 have hfz15_3 := aa_ BK101.out 3
 have hcz16_0 : w5.cell? ⟨gb102, 0, none⟩ = some (.int .i64 a1_0) := (ab_ BK102.out 0).trans rfl
 have hcz16_1 : w5.cell? ⟨gb102, 1, none⟩ = some (.int .i64 a1_1) := (ab_ BK102.out 1).trans rfl
 have hcz16_2 : w5.cell? ⟨gb102, 2, none⟩ = some (.string a1_2) := (ab_ BK102.out 2).trans rfl
 have hcz16_3 : w5.cell? ⟨gb102, 3, none⟩ = some (.slice A1_3 l1_3.length c1_3) := (ab_ BK102.out 3).trans rfl
 have hfz16_0 := aa_ BK102.out 0
 have hfz16_1 := aa_ BK102.out 1
 have hfz16_2 := aa_ BK102.out 2
 have hfz16_3 := aa_ BK102.out 3
 go_upto_if 25 with (first | ((with_reducible refine am_ (f := 12) rfl ?_); refine aX_ (some 24) rfl rfl Try.func12 (by kernel_rfl) rfl #[.slice A0_3 l0_3.length c0_3, .slice A1_3 l1_3.length c1_3] rfl (by first | rfl | (simp only [List.map_toArray, List.map_cons, List.map_nil]; first | done | rfl)) ?_; (with_reducible refine (bt_.calls k _ _ l0_3 _ _ l1_3 t103 _ ?side1 ?side2 ?side3 ?side4 A12.out).mono ?_); (case side1 => repeat (first | exact (Kd.bE_ HR0_3.out (by repeat (first | (with_reducible first | exact HB.out | apply bA_ | apply bN_ | apply bD_ | refine ac_ ?_ GE101.out | refine ac_ ?_ GE102.out) | exact HB.out))) | (with_reducible first | refine Kd.C_alloc ?_ _ | refine Kd.C_drewN ?_ _ | refine Kd.C_drew ?_))); (case side2 => exact HC0_3.out); (case side3 => repeat (first | exact (Kd.bE_ HR1_3.out (by repeat (first | (with_reducible first | exact HB.out | apply bA_ | apply bN_ | apply bD_ | refine ac_ ?_ GE101.out | refine ac_ ?_ GE102.out) | exact HB.out))) | (with_reducible first | refine Kd.C_alloc ?_ _ | refine Kd.C_drewN ?_ _ | refine Kd.C_drew ?_))); (case side4 => exact HC1_3.out); rintro e w17 ⟨rfl, hb⟩; refine ⟨_, rfl, ?_⟩; replace BK101 := Aside0.mk (aG_ (g := gb101) (o := .cells #[.int .i64 a0_0, .int .i64 a0_1, .string a0_2, .slice A0_3 l0_3.length c0_3] 78 (0, 0)) (kz BK101.out) hb); replace BK102 := Aside0.mk (aG_ (g := gb102) (o := .cells #[.int .i64 a1_0, .int .i64 a1_1, .string a1_2, .slice A1_3 l1_3.length c1_3] 78 (0, 0)) (kz BK102.out) hb); replace HB := Aside0.mk (ag_ (by repeat (first | (with_reducible first | exact HB.out | apply bA_ | apply bN_ | apply bD_ | refine ac_ ?_ GE101.out | refine ac_ ?_ GE102.out) | exact HB.out)) hb); (try clear hb)))
 (try simp only [Act.put, lsa_, ls0_, ls1_])
 have H := HC13.out
 clear HC13
 by_cases c18 : t103 = true
 rotate_left
 ·replace c18 := Bool.eq_false_iff.mpr c18
  subst c18
  have H1 : (some false) = some r := by rw [if_neg (show ¬ (false = true) by decide)] at H; exact H
  clear H
  have H := H1
  clear H1
  obtain rfl := Option.some.inj H
  go_wp2
  go_ret
  exact ⟨by first | rfl | (simp [*, an_, ao_] <;> rfl), by repeat (first | (with_reducible first | exact HB.out | apply bA_ | apply bN_ | apply bD_ | refine ac_ ?_ GE101.out | refine ac_ ?_ GE102.out) | exact HB.out)⟩
 subst c18
 have H1 : (some true) = some r := by rw [if_pos rfl] at H; exact H
 clear H
 have H := H1
 clear H1
 obtain rfl := Option.some.inj H
 go_wp2
 go_ret
 exact ⟨by first | rfl | (simp [*, an_, ao_] <;> rfl), by repeat (first | (with_reducible first | exact HB.out | apply bA_ | apply bN_ | apply bD_ | refine ac_ ?_ GE101.out | refine ac_ ?_ GE102.out) | exact HB.out)⟩
def aC_.l0 : Nat → List (S78) → List (S78) → Int → Option (Bool)
 | 0, _, _, _ => none
 | k + 1, x0, x1, x5 => if x5 < (x0.length : Int) then (if 0 ≤ x5 then (if x5 < (x1.length : Int) then ((cT_.f k ((ak_ x0 x5).f0) ((ak_ x0 x5).f1) ((ak_ x0 x5).f2) ((ak_ x0 x5).f3) ((ak_ x1 x5).f0) ((ak_ x1 x5).f1) ((ak_ x1 x5).f2) ((ak_ x1 x5).f3)).bind fun t103 => (if t103 = true then (aC_.l0 k x0 x1 (wrap64 (x5 + 1))) else (some false))) else (none)) else (none)) else (some true)
def aC_.f (k : Nat) (l0 : List (S78)) (l1 : List (S78)) : Option (Bool) := if (l0.length : Int) = (l1.length : Int) then (aC_.l0 k l0 l1 0) else (some false)
def aC_.T6 : Bool × List (List Nat × List Nat) := (true, [([], []), ([], []), ([0, 1], [0, 1]), ([2], [2]), ([], []), ([], []), ([4, 5], [4, 5]), ([6], [6]), ([3, 7], [3, 7]), ([8], [8])])
def aC_.B6 : List Nat := [0, 0, 3, 7, 0, 0, 48, 112, 255, 511]
theorem aC_.tab6 : rtab .any (opsOf Try.f23 6) = aC_.T6 := by kernel_rfl
theorem aC_.bits6 : dy_ aC_.T6.2 aC_.B6 = true := by kernel_rfl
set_option maxHeartbeats 8000000 in
set_option maxRecDepth 100000 in
theorem aC_.calls (k : Nat) (A0 : Option Addr) (c0 : Nat) (l0 : List (S78)) (A1 : Option Addr) (c1 : Nat) (l1 : List (S78)) (r : Bool) (w : World) (hr0 : Kd.C k78 w A0 l0.length l0) (hc0 : l0.length ≤ c0) (hr1 : Kd.C k78 w A1 l1.length l1) (hc1 : l1.length ≤ c1) (h : aC_.f k l0 l1 = some r) :
  Calls Try.prog 23 #[.slice A0 l0.length c0, .slice A1 l1.length c1] w fun e w' => e = .returned (.bool r) ∧ Below w.heap.size w w' := by
 have hu78 := Try.underlying78
 have HR0 := Aside0.mk hr0
 have HC0 := Aside0.mk hc0
 clear hr0 hc0
 have HR1 := Aside0.mk hr1
 have HC1 := Aside0.mk hc1
 clear hr1 hc1
 have HB := Aside0.mk (Below.refl w.heap.size w)
 have H : (if (l0.length : Int) = (l1.length : Int) then (aC_.l0 k l0 l1 0) else (some false)) = some r := h
 clear h
 by_cases c3 : (l0.length : Int) = (l1.length : Int)
 rotate_left
 ·rw [if_neg c3] at H
  have c3b0 : ((l0.length : Int) == (l1.length : Int)) = false := beq_eq_false_iff_ne.mpr c3
  have c3b1 : ((l0.length : Int) != (l1.length : Int)) = true := bne_iff_ne.mpr c3
  have c3b2 : (l0.length == l1.length) = false := by first | simpa using c3 | (simp at c3 ⊢; omega)
  obtain rfl := Option.some.inj H
  go_enter Try.func23, Try.ntmps23
  go_wp2
  go_ret
  exact ⟨by first | rfl | (simp [*, an_, ao_] <;> rfl), bz HB.out⟩
 rw [if_pos c3] at H
 have c3b0 : ((l0.length : Int) == (l1.length : Int)) = true := beq_iff_eq.mpr c3
 have c3b1 : ((l0.length : Int) != (l1.length : Int)) = false := bne_eq_false_iff_eq.mpr c3
 have c3b2 : (l0.length == l1.length) = true := by first | simpa using c3 | (simp at c3 ⊢; omega)
 clear c3
 have H' := Aside0.mk H
 clear H
 go_enter Try.func23, Try.ntmps23
 go_wp2
 (try simp only [Act.put, lsa_, ls0_, ls1_])
 go_loopg [5] k (fun kq v5 w' => ∃ (x5_1 : Int), v5 = .int .i64 x5_1 ∧ Aside0 (aC_.l0 kq l0 l1 x5_1 = some r) ∧ Aside0 (kq ≤ k) ∧ Aside0 (Below w.heap.size w w'))
 case atStart => exact ⟨(0), (by first | rfl | (simp; done) | (simp [*]; done)), H', ⟨Nat.le_refl _⟩, ⟨bz HB.out⟩⟩
 case round =>
  clear H'
  obtain ⟨x5_1, rfl, HA, HK1, HB⟩ := hrel
  cases gk with
  | zero => exact absurd HA.out (by simp [aC_.l0])
  | succ k1 =>
   have H := HA.out
   clear HA
   simp only [aC_.l0] at H
   by_cases c4 : x5_1 < (l0.length : Int)
   rotate_left
   ·rw [if_neg c4] at H
    have c4b0 : decide (x5_1 < (l0.length : Int)) = false := decide_eq_false c4
    clear c4
    obtain rfl := Option.some.inj H
    go_wp2
    go_ret
    exact ⟨by first | rfl | (simp [*, an_, ao_] <;> rfl), bz HB.out⟩
   rw [if_pos c4] at H
   have c4b0 : decide (x5_1 < (l0.length : Int)) = true := decide_eq_true c4
   clear c4
   by_cases c5 : 0 ≤ x5_1
   rotate_left
   ·rw [if_neg c5] at H
    exact absurd H (by simp)
   rw [if_pos c5] at H
   have c5b0 : decide (0 ≤ x5_1) = true := decide_eq_true c5
   clear c5
   by_cases c6 : x5_1 < (l1.length : Int)
   rotate_left
   ·rw [if_neg c6] at H
    exact absurd H (by simp)
   rw [if_pos c6] at H
   have c6b0 : decide (x5_1 < (l1.length : Int)) = true := decide_eq_true c6
   clear c6
   replace H := Option.bind_eq_some_iff.mp H
   obtain ⟨t103, A70, H⟩ := H
   (try dsimp only at H)
   have A7 := Aside0.mk A70
   clear A70
   have HC8 := Aside0.mk H
   clear H
   try go_wp2
   have n0_ := Aside0.mk (bD_ HB.out)
   clear HB
   have HB := n0_
   clear n0_
   have p101 : 0 ≤ (x5_1 : Int) := of_decide_eq_true (by assumption)
   have q101 : x5_1 < (l0.length : Int) := of_decide_eq_true (by assumption)
   obtain ⟨ad101, A101_3, c101_3, e101, hx101_0, hx101_1, hx101_2, hx101_3, hl101_3, hi101_3⟩ := cL_ HR0.out x5_1 p101 q101
   have hw101_3 := hx101_3
   have hw101_2 := hx101_2
   have hw101_1 := hx101_1
   have hw101_0 := hx101_0
   cases e101
   replace hx101_0 := (HB.out.cell (bl_ w _ hx101_0)).trans hx101_0
   replace hx101_1 := (HB.out.cell (bl_ w _ hx101_1)).trans hx101_1
   replace hx101_2 := (HB.out.cell (bl_ w _ hx101_2)).trans hx101_2
   replace hx101_3 := (HB.out.cell (bl_ w _ hx101_3)).trans hx101_3
   have HR101_3 := Aside0.mk hi101_3
   have HC101_3 := Aside0.mk hl101_3
   clear hi101_3 hl101_3
   replace p101 := eq_true p101
   replace q101 := eq_true q101
   have p102 : 0 ≤ (x5_1 : Int) := of_decide_eq_true (by assumption)
   have q102 : x5_1 < (l1.length : Int) := of_decide_eq_true (by assumption)
   obtain ⟨ad102, A102_3, c102_3, e102, hx102_0, hx102_1, hx102_2, hx102_3, hl102_3, hi102_3⟩ := cL_ HR1.out x5_1 p102 q102
   have hw102_3 := hx102_3
   have hw102_2 := hx102_2
   have hw102_1 := hx102_1
   have hw102_0 := hx102_0
   cases e102
   replace hx102_0 := (HB.out.cell (bl_ w _ hx102_0)).trans hx102_0
   replace hx102_1 := (HB.out.cell (bl_ w _ hx102_1)).trans hx102_1
   replace hx102_2 := (HB.out.cell (bl_ w _ hx102_2)).trans hx102_2
   replace hx102_3 := (HB.out.cell (bl_ w _ hx102_3)).trans hx102_3
   have HR102_3 := Aside0.mk hi102_3
   have HC102_3 := Aside0.mk hl102_3
   clear hi102_3 hl102_3
   replace p102 := eq_true p102
   replace q102 := eq_true q102
   refine start_ (n := 10) (S := fun w' => w'.cell? (ad101.add ((x5_1).toNat * 4)) = some (.int .i64 ((ak_ l0 x5_1).f0)) ∧ w'.cell? ⟨(ad101.add ((x5_1).toNat * 4)).block, (ad101.add ((x5_1).toNat * 4)).off + 1, none⟩ = some (.int .i64 ((ak_ l0 x5_1).f1)) ∧ w'.cell? ⟨(ad101.add ((x5_1).toNat * 4)).block, (ad101.add ((x5_1).toNat * 4)).off + 2, none⟩ = some (.string ((ak_ l0 x5_1).f2)) ∧ w'.cell? ⟨(ad101.add ((x5_1).toNat * 4)).block, (ad101.add ((x5_1).toNat * 4)).off + 3, none⟩ = some (.slice A101_3 ((ak_ l0 x5_1).f3).length c101_3) ∧ w'.cell? (ad102.add ((x5_1).toNat * 4)) = some (.int .i64 ((ak_ l1 x5_1).f0)) ∧ w'.cell? ⟨(ad102.add ((x5_1).toNat * 4)).block, (ad102.add ((x5_1).toNat * 4)).off + 1, none⟩ = some (.int .i64 ((ak_ l1 x5_1).f1)) ∧ w'.cell? ⟨(ad102.add ((x5_1).toNat * 4)).block, (ad102.add ((x5_1).toNat * 4)).off + 2, none⟩ = some (.string ((ak_ l1 x5_1).f2)) ∧ w'.cell? ⟨(ad102.add ((x5_1).toNat * 4)).block, (ad102.add ((x5_1).toNat * 4)).off + 3, none⟩ = some (.slice A102_3 ((ak_ l1 x5_1).f3).length c102_3)) (ds := []) #[f_,f_,f_,f_,f_,f_,f_,f_,f_,f_] (by kernel_rfl) rfl rfl ⟨((HB.out.cell (bl_ w _ hw101_0)).trans hw101_0), ((HB.out.cell (bl_ w _ hw101_1)).trans hw101_1), ((HB.out.cell (bl_ w _ hw101_2)).trans hw101_2), ((HB.out.cell (bl_ w _ hw101_3)).trans hw101_3), ((HB.out.cell (bl_ w _ hw102_0)).trans hw102_0), ((HB.out.cell (bl_ w _ hw102_1)).trans hw102_1), ((HB.out.cell (bl_ w _ hw102_2)).trans hw102_2), ((HB.out.cell (bl_ w _ hw102_3)).trans hw102_3)⟩ (fun hHeld => ?_); refine cS_ aC_.tab6 aC_.bits6 (fun HT_ HW_ => ?_)
   generalize wr.drew = w9 at HB HR101_3 HR102_3 hx101_0 hx101_1 hx101_2 hx101_3 hx102_0 hx102_1 hx102_2 hx102_3 hHeld ⊢
   refine pure_ (i := 0) (N := some 17) (v := ?_) (a' := ?_) #[t_,f_,f_,f_,f_,f_,f_,f_,f_,f_] rfl rfl (aF_ HT_.out (by kernel_rfl)) (fun _ _ _ h => h) (Or.inl ⟨by rfl, ?_⟩) ?_ ?_
   rotate_left
   ·intro w'
    go_simp
    with_reducible rfl
   rotate_left
   ·simp only [Act.put, lsa_, ls0_, ls1_, i64_w, i32_w]
    rfl
   refine pure_ (i := 1) (N := some 18) (v := ?_) (a' := ?_) #[t_,t_,f_,f_,f_,f_,f_,f_,f_,f_] rfl rfl (aF_ HT_.out (by kernel_rfl)) (fun _ _ _ h => h) (Or.inl ⟨by rfl, ?_⟩) ?_ ?_
   rotate_left
   ·intro w'
    go_simp
    with_reducible rfl
   rotate_left
   ·simp only [Act.put, lsa_, ls0_, ls1_, i64_w, i32_w]
    rfl
   refine pure_ (i := 2) (N := some 19) (v := ?_) (a' := ?_) #[t_,t_,t_,f_,f_,f_,f_,f_,f_,f_] rfl rfl (aF_ HT_.out (by kernel_rfl)) (fun _ _ _ h => h) (Or.inl ⟨by rfl, ?_⟩) ?_ ?_
   rotate_left
   ·intro w'
    go_simp
    with_reducible rfl
   rotate_left
   ·simp only [Act.put, lsa_, ls0_, ls1_, i64_w, i32_w]
    rfl
   refine pure_ (i := 4) (N := some 21) (v := ?_) (a' := ?_) #[t_,t_,t_,f_,t_,f_,f_,f_,f_,f_] rfl rfl (aF_ HT_.out (by kernel_rfl)) (fun _ _ _ h => h) (Or.inl ⟨by rfl, ?_⟩) ?_ ?_
   rotate_left
   ·intro w'
    go_simp
    with_reducible rfl
   rotate_left
   ·simp only [Act.put, lsa_, ls0_, ls1_, i64_w, i32_w]
    rfl
   refine pure_ (i := 5) (N := some 22) (v := ?_) (a' := ?_) #[t_,t_,t_,f_,t_,t_,f_,f_,f_,f_] rfl rfl (aF_ HT_.out (by kernel_rfl)) (fun _ _ _ h => h) (Or.inl ⟨by rfl, ?_⟩) ?_ ?_
   rotate_left
   ·intro w'
    go_simp
    with_reducible rfl
   rotate_left
   ·simp only [Act.put, lsa_, ls0_, ls1_, i64_w, i32_w]
    rfl
   refine pure_ (i := 6) (N := some 23) (v := ?_) (a' := ?_) #[t_,t_,t_,f_,t_,t_,t_,f_,f_,f_] rfl rfl (aF_ HT_.out (by kernel_rfl)) (fun _ _ _ h => h) (Or.inl ⟨by rfl, ?_⟩) ?_ ?_
   rotate_left
   ·intro w'
    go_simp
    with_reducible rfl
   rotate_left
   ·simp only [Act.put, lsa_, ls0_, ls1_, i64_w, i32_w]
    rfl
   refine take_ (i := 3) (N := some 20) (v := ?_) (a' := ?_) #[t_,t_,t_,t_,t_,t_,t_,f_,f_,f_] rfl rfl (cJ_ HT_.out HW_.out (by kernel_rfl)) (fun _ _ _ h => h) (Or.inl ⟨by rfl, ?_⟩) hHeld ?_ ?_
   rotate_left
   ·rintro w' ⟨s0, s1, s2, s3, s4, s5, s6, s7⟩
    go_simp
    with_reducible rfl
   rotate_left
   ·simp only [Act.put, lsa_, ls0_, ls1_, i64_w, i32_w]
    rfl
   refine take_ (i := 7) (N := some 24) (v := ?_) (a' := ?_) #[t_,t_,t_,t_,t_,t_,t_,t_,f_,f_] rfl rfl (cJ_ HT_.out HW_.out (by kernel_rfl)) (fun _ _ _ h => h) (Or.inl ⟨by rfl, ?_⟩) hHeld ?_ ?_
   rotate_left
   ·rintro w' ⟨s0, s1, s2, s3, s4, s5, s6, s7⟩
    go_simp
    with_reducible rfl
   rotate_left
   ·simp only [Act.put, lsa_, ls0_, ls1_, i64_w, i32_w]
    rfl
   refine one_ (i := 8) (N := some 25) #[t_,t_,t_,t_,t_,t_,t_,t_,t_,f_] rfl rfl (dD_ HT_.out (by kernel_rfl)) (by decide) (fun K hK => ?_)
   (first | refine goes_ Try.func58 (by kernel_rfl) rfl #[.agg #[.int .i64 ((ak_ l0 x5_1).f0), .int .i64 ((ak_ l0 x5_1).f1), .string ((ak_ l0 x5_1).f2), .slice A101_3 ((ak_ l0 x5_1).f3).length c101_3], .agg #[.int .i64 ((ak_ l1 x5_1).f0), .int .i64 ((ak_ l1 x5_1).f1), .string ((ak_ l1 x5_1).f2), .slice A102_3 ((ak_ l1 x5_1).f3).length c102_3]] (by rfl) rfl rfl (by first | rfl | (simp only [List.map_toArray, List.map_cons, List.map_nil]; first | done | rfl)) ?_ | refine RPW.goesV_ Try.func58 (by kernel_rfl) rfl #[.agg #[.int .i64 ((ak_ l0 x5_1).f0), .int .i64 ((ak_ l0 x5_1).f1), .string ((ak_ l0 x5_1).f2), .slice A101_3 ((ak_ l0 x5_1).f3).length c101_3], .agg #[.int .i64 ((ak_ l1 x5_1).f0), .int .i64 ((ak_ l1 x5_1).f1), .string ((ak_ l1 x5_1).f2), .slice A102_3 ((ak_ l1 x5_1).f3).length c102_3]] (by rfl) rfl rfl rfl (by first | rfl | (simp only [List.map_toArray, List.map_cons, List.map_nil]; first | done | rfl)) ?_ | refine RPW.goesC_ Try.func58 (by kernel_rfl) rfl #[.agg #[.int .i64 ((ak_ l0 x5_1).f0), .int .i64 ((ak_ l0 x5_1).f1), .string ((ak_ l0 x5_1).f2), .slice A101_3 ((ak_ l0 x5_1).f3).length c101_3], .agg #[.int .i64 ((ak_ l1 x5_1).f0), .int .i64 ((ak_ l1 x5_1).f1), .string ((ak_ l1 x5_1).f2), .slice A102_3 ((ak_ l1 x5_1).f3).length c102_3]] (by rfl) rfl rfl rfl (by first | rfl | (simp only [List.map_toArray, List.map_cons, List.map_nil]; first | done | rfl)) ?_)
   with_reducible refine (cT_.calls k1 ((ak_ l0 x5_1).f0) ((ak_ l0 x5_1).f1) ((ak_ l0 x5_1).f2) _ _ ((ak_ l0 x5_1).f3) ((ak_ l1 x5_1).f0) ((ak_ l1 x5_1).f1) ((ak_ l1 x5_1).f2) _ _ ((ak_ l1 x5_1).f3) t103 _ ?side1 ?side2 ?side3 ?side4 A7.out).mono ?_
   (case side1 => exact cz (Kd.bE_ HR101_3.out HB.out))
   (case side2 => exact HC101_3.out)
   (case side3 => exact cz (Kd.bE_ HR102_3.out HB.out))
   (case side4 => exact HC102_3.out)
   rintro e w10 ⟨rfl, hb⟩
   refine ⟨_, rfl, ?_⟩
   have n0_ := Aside0.mk (ag_ (bz HB.out) hb)
   clear HB
   have HB := n0_
   clear n0_
   (try clear hb)
   refine hK.out _ _ ⟨((HB.out.cell (bl_ w _ hw101_0)).trans hw101_0), ((HB.out.cell (bl_ w _ hw101_1)).trans hw101_1), ((HB.out.cell (bl_ w _ hw101_2)).trans hw101_2), ((HB.out.cell (bl_ w _ hw101_3)).trans hw101_3), ((HB.out.cell (bl_ w _ hw102_0)).trans hw102_0), ((HB.out.cell (bl_ w _ hw102_1)).trans hw102_1), ((HB.out.cell (bl_ w _ hw102_2)).trans hw102_2), ((HB.out.cell (bl_ w _ hw102_3)).trans hw102_3)⟩ (fun hHeld => ?_)
   clear hK K
   refine norm_ (a' := ?_) ?_ ?_
   rotate_left
   ·show Act.put _ (some 25) _ = _
    simp only [Act.put, lsa_, ls0_, ls1_, i64_w, i32_w]
    rfl
   refine pure_ (i := 9) (N := some 26) (v := ?_) (a' := ?_) #[t_,t_,t_,t_,t_,t_,t_,t_,t_,t_] rfl rfl (aF_ HT_.out (by kernel_rfl)) (fun _ _ _ h => h) (Or.inl ⟨by rfl, ?_⟩) ?_ ?_
   rotate_left
   ·intro w'
    go_simp
    with_reducible rfl
   rotate_left
   ·simp only [Act.put, lsa_, ls0_, ls1_, i64_w, i32_w]
    rfl
   refine done_ (dA_ HT_.out (by kernel_rfl)) ?_
   go_upto_if 26 with (fail)
   have H := HC8.out
   clear HC8
   by_cases c11 : t103 = true
   rotate_left
   ·replace c11 := Bool.eq_false_iff.mpr c11
    subst c11
    have H1 : (some false) = some r := by rw [if_neg (show ¬ (false = true) by decide)] at H; exact H
    clear H
    have H := H1
    clear H1
    obtain rfl := Option.some.inj H
    go_wp2
    go_ret
    exact ⟨by first | rfl | (simp [*, an_, ao_] <;> rfl), bz HB.out⟩
   subst c11
   have H1 : (aC_.l0 k1 l0 l1 (wrap64 (x5_1 + 1))) = some r := by rw [if_pos rfl] at H; exact H
   clear H
   have H := H1
   clear H1
   have H' := Aside0.mk H
   clear H
   go_wp2
   go_roundg k1
   case measure => have := HK1.out; omega
   case rel => exact ⟨(wrap64 (x5_1 + 1)), (by first | rfl | (simp; done) | (simp [*]; done)), H', ⟨by have := HK1.out; omega⟩, ⟨bz HB.out⟩⟩
def bk_.l0 : Nat → Int → ByteArray → Option (ByteArray)
 | 0, _, _ => none
 | k + 1, x0, x3 => if x0 > 0 then ((some (([(wrap64 (48 + (Int.tmod x0 10))) % 256] : List Int) : List Int)).bind fun y101 => (if (strOfNums y101).size + x3.size ≤ 9223372036854775807 then (bk_.l0 k (wrap64 (Int.tdiv x0 10)) ((strOfNums y101) ++ x3)) else (none))) else (if 1 + x3.size ≤ 9223372036854775807 then (some ((⟨#[109]⟩ : ByteArray) ++ x3)) else (none))
def bk_.f (k : Nat) (a0 : Int) : Option (ByteArray) := if a0 ≤ 0 then (some (⟨#[109, 48]⟩ : ByteArray)) else (bk_.l0 k a0 (⟨#[]⟩ : ByteArray))
set_option maxHeartbeats 8000000 in
set_option maxRecDepth 100000 in
theorem bk_.calls (k : Nat) (a0 : Int) (r : ByteArray) (w : World) (h : bk_.f k a0 = some r) :
  Calls Try.prog 43 #[.int .i64 a0] w fun e w' => e = .returned (.string r) ∧ Below w.heap.size w w' := by
 have HB := Aside0.mk (Below.refl w.heap.size w)
 have H : (if a0 ≤ 0 then (some (⟨#[109, 48]⟩ : ByteArray)) else (bk_.l0 k a0 (⟨#[]⟩ : ByteArray))) = some r := h
 clear h
 by_cases c2 : a0 ≤ 0
 rotate_left
 ·rw [if_neg c2] at H
  have c2b0 : decide (a0 ≤ 0) = false := decide_eq_false c2
  clear c2
  have H' := Aside0.mk H
  clear H
  go_enter Try.func43, Try.ntmps43
  go_wp2
  (try simp only [Act.put, lsa_, ls0_, ls1_])
  go_loopg [0, 3] k (fun kq v0 v3 w' => ∃ (x0_1 : Int) (x3_1 : ByteArray), v0 = .int .i64 x0_1 ∧ v3 = .string x3_1 ∧ Aside0 (bk_.l0 kq x0_1 x3_1 = some r) ∧ Aside0 (kq ≤ k) ∧ Aside0 (Below w.heap.size w w'))
  case atStart => exact ⟨(a0), ((⟨#[]⟩ : ByteArray)), (by first | rfl | (simp; done) | (simp [*]; done)), (by first | rfl | (simp; done) | (simp [*]; done)), H', ⟨Nat.le_refl _⟩, ⟨bz HB.out⟩⟩
  case round =>
   clear H'
   obtain ⟨x0_1, x3_1, rfl, rfl, HA, HK1, HB⟩ := hrel
   cases gk with
   | zero => exact absurd HA.out (by simp [bk_.l0])
   | succ k1 =>
    have H := HA.out
    clear HA
    simp only [bk_.l0] at H
    by_cases c3 : x0_1 > 0
    rotate_left
    ·rw [if_neg c3] at H
     have c3b0 : decide (0 < x0_1) = false := decide_eq_false c3
     clear c3
     by_cases c8 : 1 + x3_1.size ≤ 9223372036854775807
     rotate_left
     ·rw [if_neg c8] at H
      exact absurd H (by simp)
     rw [if_pos c8] at H
     have c8b0 := eq_true c8
     have c8b1 : decide (1 + x3_1.size ≤ 9223372036854775807) = true := decide_eq_true c8
     try have c8b2 : (9223372036854775807 < 1 + x3_1.size) = False := eq_false (Nat.not_lt.2 c8)
     obtain rfl := Option.some.inj H
     go_wp2
     go_ret
     exact ⟨by first | rfl | (simp [*, an_, ao_] <;> rfl), bz HB.out⟩
    rw [if_pos c3] at H
    have c3b0 : decide (0 < x0_1) = true := decide_eq_true c3
    clear c3
    obtain ⟨y101, hy101⟩ : ∃ y_ : List Int, y_ = (([(wrap64 (48 + (Int.tmod x0_1 10))) % 256] : List Int)) := ⟨_, rfl⟩
    replace H : (if (strOfNums y101).size + x3_1.size ≤ 9223372036854775807 then (bk_.l0 k1 (wrap64 (Int.tdiv x0_1 10)) ((strOfNums y101) ++ x3_1)) else (none)) = some r := by first | (rw [hy101]; with_reducible exact H) | (have H2_ := (Option.bind_some _ _).symm.trans H; rw [hy101]; with_reducible exact H2_) | (have H2_ := (Option.bind_some _ _).symm.trans H; with_reducible exact H2_) | with_reducible exact H | (rw [hy101]; exact H) | exact H
    have Ny101 := Aside0.mk hy101
    clear hy101
    by_cases c4 : (strOfNums y101).size + x3_1.size ≤ 9223372036854775807
    rotate_left
    ·rw [if_neg c4] at H
     exact absurd H (by simp)
    rw [if_pos c4] at H
    have c4b0 := eq_true c4
    have c4b1 : decide ((strOfNums y101).size + x3_1.size ≤ 9223372036854775807) = true := decide_eq_true c4
    try have c4b2 : (9223372036854775807 < (strOfNums y101).size + x3_1.size) = False := eq_false (Nat.not_lt.2 c4)
    have H' := Aside0.mk H
    clear H
    go_wp2_with (first | ((with_reducible refine au_ (N := 12) rfl ?_); refine Kd.R_lit (Kd.int .u8) _ 5 ?hg (N := 12) ?hd (xs := ([(wrap64 (48 + (Int.tmod x0_1 10))) % 256] : List Int)) (inner := [.int .u8 ((wrap64 (48 + (Int.tmod x0_1 10))) % 256)]) (ok := fun _ => True) (okp := fun _ => True) ?hr ?hp (fun _ hk => hk) trivial (Below.refl _ _) (Nat.le_refl _) (by simp) ?_; (case hd => rfl); (case hg => rfl); (case hr => (go_simp; try rfl)); (case hp => exact (Reps.one (show Kd.M (Kd.int .u8) _ _ _ ((wrap64 (48 + (Int.tmod x0_1 10))) % 256) [.int .u8 ((wrap64 (48 + (Int.tmod x0_1 10))) % 256)] from rfl) (Reps.none _ _))); intro v102 w5 ho6 hb hg_ hnew_; clear hg_ hnew_; (first | rw [← Ny101.out] at ho6 | (simp only [Int.reduceToNat] at ho6; rw [← Ny101.out] at ho6)); have HO103 := Aside0.mk (Kd.bI_ ho6 (ae_ (bz HB.out))); replace HB := Aside0.mk (ag_ (bz HB.out) hb); clear hb ho6; have hcv7 := own_string (P := Try.prog) Try.underlying45 Try.underlying5 Try.underlying9 (Kd.own_of_R HO103.out)))
    go_roundg k1
    case measure => have := HK1.out; omega
    case rel => exact ⟨(wrap64 (Int.tdiv x0_1 10)), ((strOfNums y101) ++ x3_1), (by first | rfl | (simp; done) | (simp [*]; done)), (by first | rfl | (simp; done) | (simp [*]; done)), H', ⟨by have := HK1.out; omega⟩, ⟨bz HB.out⟩⟩
 rw [if_pos c2] at H
 have c2b0 : decide (a0 ≤ 0) = true := decide_eq_true c2
 clear c2
 obtain rfl := Option.some.inj H
 go_enter Try.func43, Try.ntmps43
 go_wp2
 go_ret
 exact ⟨by first | rfl | (simp [*, an_, ao_] <;> rfl), bz HB.out⟩
def bw_.l0 : Nat → List (S63) → Int → Int → Option (Int × (List (S63)))
 | 0, _, _, _ => none
 | k + 1, x0, x1, x5 => if x5 < (x0.length : Int) then ((bk_.f k x1).bind fun t101 => (if 0 ≤ x5 then ((some (x0.set (x5 : Int).toNat (⟨t101, (⟨(af_ x0 x5).f1.f0, (af_ x0 x5).f1.f1, (af_ x0 x5).f1.f2⟩ : S61)⟩ : S63) : List (S63))).bind fun y102 => ((bk_.f k (wrap64 (x1 + 1))).bind fun t103 => ((some (y102.set (x5 : Int).toNat (⟨(af_ y102 x5).f0, (⟨t103, (af_ y102 x5).f1.f1, (af_ y102 x5).f1.f2⟩ : S61)⟩ : S63) : List (S63))).bind fun y104 => ((some (y104.set (x5 : Int).toNat (⟨(af_ y104 x5).f0, (⟨(af_ y104 x5).f1.f0, wrap64 ((wrap64 (x1 + 1)) + 1), (af_ y104 x5).f1.f2⟩ : S61)⟩ : S63) : List (S63))).bind fun y105 => (bw_.l0 k (y105.set (x5 : Int).toNat (⟨(af_ y105 x5).f0, (⟨(af_ y105 x5).f1.f0, (af_ y105 x5).f1.f1, wrap64 ((wrap64 ((wrap64 (x1 + 1)) + 1)) + 1)⟩ : S61)⟩ : S63)) (wrap64 ((wrap64 ((wrap64 ((wrap64 (x1 + 1)) + 1)) + 1)) + 1)) (wrap64 (x5 + 1))))))) else (none))) else (some (x1, x0))
def bw_.f (k : Nat) (l0 : List (S63)) (a1 : Int) : Option (Int × (List (S63))) := bw_.l0 k l0 a1 0
set_option maxHeartbeats 8000000 in
set_option maxRecDepth 100000 in
theorem bw_.calls (k : Nat) (P0_ : Nat → Prop) (u9000_ : Value) (l0 : List (S63)) (a1 : Int) (r1 : Int) (r2 : List (S63)) (w0 w : World) (hB : Below w0.heap.size w0 w) (ho0 : Kd.R k63 63 w w0.heap.size P0_ u9000_ l0) (h : bw_.f k l0 a1 = some (r1, r2)) :
  Calls Try.prog 13 #[u9000_, .int .i64 a1] w fun e w' => e = .returned (.int .i64 r1) ∧ Kd.R k63 63 w' w0.heap.size (fun k_ => (P0_ k_ ∨ w.heap.size ≤ k_)) u9000_ r2 ∧ Below w0.heap.size w0 w' ∧ Kept w w' (fun k_ => P0_ k_) := by
 have HO0 := Aside0.mk (show Kd.R k63 63 w w0.heap.size (fun k_ => (P0_ k_ ∨ w.heap.size ≤ k_)) u9000_ l0 from Kd.aK_ ho0 (fun k_ hk => (.inl hk)))
 have HK := Aside0.mk (Kept.refl w (fun k_ => P0_ k_))
 have HW0 := Aside0.mk hB.size
 have HB := Aside0.mk hB
 clear hB
 have H : (bw_.l0 k l0 a1 0) = some (r1, r2) := h
 clear h
 have H' := Aside0.mk H
 clear H
 go_enter Try.func13, Try.ntmps13
 go_wp2
 (try simp only [Act.put, lsa_, ls0_, ls1_])
 go_loopg [1, 5] k (fun kq v1 v5 w' => ∃ (x0_1 : List (S63)) (x1_1 : Int) (x5_1 : Int), v1 = .int .i64 x1_1 ∧ v5 = .int .i64 x5_1 ∧ Aside0 (bw_.l0 kq x0_1 x1_1 x5_1 = some (r1, r2)) ∧ Aside0 (kq ≤ k) ∧ Aside0 (Kd.R k63 63 w' w0.heap.size (fun k_ => (P0_ k_ ∨ w.heap.size ≤ k_)) u9000_ x0_1) ∧ Aside0 (Kept w w' (fun k_ => P0_ k_)) ∧ Aside0 (Below w0.heap.size w0 w'))
 case atStart => exact ⟨(l0), (a1), (0), (by first | rfl | (simp; done) | (simp [*]; done)), (by first | rfl | (simp; done) | (simp [*]; done)), H', ⟨Nat.le_refl _⟩, ⟨rz HO0.out⟩, ⟨hz HK.out⟩, ⟨bz HB.out⟩⟩
 case round =>
  clear H'
  obtain ⟨x0_1, x1_1, x5_1, rfl, rfl, HA, HK1, HO_0, HK, HB⟩ := hrel
  cases gk with
  | zero => exact absurd HA.out (by simp [bw_.l0])
  | succ k1 =>
   have H := HA.out
   clear HA
   simp only [bw_.l0] at H
   by_cases c3 : x5_1 < (x0_1.length : Int)
   rotate_left
   ·rw [if_neg c3] at H
    have c3b0 : decide (x5_1 < (x0_1.length : Int)) = false := decide_eq_false c3
    clear c3
    simp only [Option.some.injEq, Prod.mk.injEq] at H
    obtain ⟨rfl, rfl⟩ := H
    obtain ⟨Ao22, co22, eo22⟩ := Kd.bF_ HO_0.out
    subst eo22
    go_wp2
    go_ret
    exact ⟨by first | rfl | (simp [*, an_, ao_] <;> rfl), rz HO_0.out, bz HB.out, hz HK.out⟩
   rw [if_pos c3] at H
   have c3b0 : decide (x5_1 < (x0_1.length : Int)) = true := decide_eq_true c3
   clear c3
   replace H := Option.bind_eq_some_iff.mp H
   obtain ⟨t101, A40, H⟩ := H
   (try dsimp only at H)
   have A4 := Aside0.mk A40
   clear A40
   by_cases c5 : 0 ≤ x5_1
   rotate_left
   ·rw [if_neg c5] at H
    exact absurd H (by simp)
   rw [if_pos c5] at H
   have c5b0 : decide (0 ≤ x5_1) = true := decide_eq_true c5
   clear c5
   obtain ⟨y102, hy102⟩ : ∃ y_ : List (S63), y_ = (x0_1.set (x5_1 : Int).toNat (⟨t101, (⟨(af_ x0_1 x5_1).f1.f0, (af_ x0_1 x5_1).f1.f1, (af_ x0_1 x5_1).f1.f2⟩ : S61)⟩ : S63)) := ⟨_, rfl⟩
   replace H : ((bk_.f k1 (wrap64 (x1_1 + 1))).bind fun t103 => ((some (y102.set (x5_1 : Int).toNat (⟨(af_ y102 x5_1).f0, (⟨t103, (af_ y102 x5_1).f1.f1, (af_ y102 x5_1).f1.f2⟩ : S61)⟩ : S63) : List (S63))).bind fun y104 => ((some (y104.set (x5_1 : Int).toNat (⟨(af_ y104 x5_1).f0, (⟨(af_ y104 x5_1).f1.f0, wrap64 ((wrap64 (x1_1 + 1)) + 1), (af_ y104 x5_1).f1.f2⟩ : S61)⟩ : S63) : List (S63))).bind fun y105 => (bw_.l0 k1 (y105.set (x5_1 : Int).toNat (⟨(af_ y105 x5_1).f0, (⟨(af_ y105 x5_1).f1.f0, (af_ y105 x5_1).f1.f1, wrap64 ((wrap64 ((wrap64 (x1_1 + 1)) + 1)) + 1)⟩ : S61)⟩ : S63)) (wrap64 ((wrap64 ((wrap64 ((wrap64 (x1_1 + 1)) + 1)) + 1)) + 1)) (wrap64 (x5_1 + 1)))))) = some (r1, r2) := by first | (rw [hy102]; with_reducible exact H) | (have H2_ := (Option.bind_some _ _).symm.trans H; rw [hy102]; with_reducible exact H2_) | (have H2_ := (Option.bind_some _ _).symm.trans H; with_reducible exact H2_) | with_reducible exact H | (rw [hy102]; exact H) | exact H
   have Ny102 := Aside0.mk hy102
   clear hy102
   replace H := Option.bind_eq_some_iff.mp H
   obtain ⟨t103, A70, H⟩ := H
   (try dsimp only at H)
   have A7 := Aside0.mk A70
   clear A70
   obtain ⟨y104, hy104⟩ : ∃ y_ : List (S63), y_ = (y102.set (x5_1 : Int).toNat (⟨(af_ y102 x5_1).f0, (⟨t103, (af_ y102 x5_1).f1.f1, (af_ y102 x5_1).f1.f2⟩ : S61)⟩ : S63)) := ⟨_, rfl⟩
   replace H : ((some (y104.set (x5_1 : Int).toNat (⟨(af_ y104 x5_1).f0, (⟨(af_ y104 x5_1).f1.f0, wrap64 ((wrap64 (x1_1 + 1)) + 1), (af_ y104 x5_1).f1.f2⟩ : S61)⟩ : S63) : List (S63))).bind fun y105 => (bw_.l0 k1 (y105.set (x5_1 : Int).toNat (⟨(af_ y105 x5_1).f0, (⟨(af_ y105 x5_1).f1.f0, (af_ y105 x5_1).f1.f1, wrap64 ((wrap64 ((wrap64 (x1_1 + 1)) + 1)) + 1)⟩ : S61)⟩ : S63)) (wrap64 ((wrap64 ((wrap64 ((wrap64 (x1_1 + 1)) + 1)) + 1)) + 1)) (wrap64 (x5_1 + 1)))) = some (r1, r2) := by first | (rw [hy104]; with_reducible exact H) | (have H2_ := (Option.bind_some _ _).symm.trans H; rw [hy104]; with_reducible exact H2_) | (have H2_ := (Option.bind_some _ _).symm.trans H; with_reducible exact H2_) | with_reducible exact H | (rw [hy104]; exact H) | exact H
   have Ny104 := Aside0.mk hy104
   clear hy104
   obtain ⟨y105, hy105⟩ : ∃ y_ : List (S63), y_ = (y104.set (x5_1 : Int).toNat (⟨(af_ y104 x5_1).f0, (⟨(af_ y104 x5_1).f1.f0, wrap64 ((wrap64 (x1_1 + 1)) + 1), (af_ y104 x5_1).f1.f2⟩ : S61)⟩ : S63)) := ⟨_, rfl⟩
   replace H : (bw_.l0 k1 (y105.set (x5_1 : Int).toNat (⟨(af_ y105 x5_1).f0, (⟨(af_ y105 x5_1).f1.f0, (af_ y105 x5_1).f1.f1, wrap64 ((wrap64 ((wrap64 (x1_1 + 1)) + 1)) + 1)⟩ : S61)⟩ : S63)) (wrap64 ((wrap64 ((wrap64 ((wrap64 (x1_1 + 1)) + 1)) + 1)) + 1)) (wrap64 (x5_1 + 1))) = some (r1, r2) := by first | (rw [hy105]; with_reducible exact H) | (have H2_ := (Option.bind_some _ _).symm.trans H; rw [hy105]; with_reducible exact H2_) | (have H2_ := (Option.bind_some _ _).symm.trans H; with_reducible exact H2_) | with_reducible exact H | (rw [hy105]; exact H) | exact H
   have Ny105 := Aside0.mk hy105
   clear hy105
   obtain ⟨y106, hy106⟩ : ∃ y_ : List (S63), y_ = (y105.set (x5_1 : Int).toNat (⟨(af_ y105 x5_1).f0, (⟨(af_ y105 x5_1).f1.f0, (af_ y105 x5_1).f1.f1, wrap64 ((wrap64 ((wrap64 (x1_1 + 1)) + 1)) + 1)⟩ : S61)⟩ : S63)) := ⟨_, rfl⟩
   replace H : (bw_.l0 k1 y106 (wrap64 ((wrap64 ((wrap64 ((wrap64 (x1_1 + 1)) + 1)) + 1)) + 1)) (wrap64 (x5_1 + 1))) = some (r1, r2) := by first | (rw [hy106]; with_reducible exact H) | (have H2_ := (Option.bind_some _ _).symm.trans H; rw [hy106]; with_reducible exact H2_) | (have H2_ := (Option.bind_some _ _).symm.trans H; with_reducible exact H2_) | with_reducible exact H | (rw [hy106]; exact H) | exact H
   have Ny106 := Aside0.mk hy106
   clear hy106
   have H' := Aside0.mk H
   clear H
   obtain ⟨Ao11, co11, eo11⟩ := Kd.bF_ HO_0.out
   subst eo11
   go_wp2_with (first | ((with_reducible refine am_ (f := 43) rfl ?_); refine aX_ (some 15) rfl rfl Try.func43 (by kernel_rfl) rfl #[.int .i64 x1_1] rfl (by first | rfl | (simp only [List.map_toArray, List.map_cons, List.map_nil]; first | done | rfl)) ?_; (with_reducible refine (bk_.calls k1 x1_1 t101 _ A4.out).mono ?_); rintro e w12 ⟨rfl, hb⟩; refine ⟨_, rfl, ?_⟩; replace HO_0 := Aside0.mk (Kd.aH_ (rz HO_0.out) hb); replace HK := Aside0.mk (Kept.below (S := (fun k_ => P0_ k_)) (hz HK.out) hb); replace HB := Aside0.mk (ag_ (bz HB.out) hb); (try clear hb); have p6 : 0 ≤ (x5_1 : Int) := of_decide_eq_true (by assumption); have q6 : (x5_1 : Int) < ((x0_1.length : Int) : Int) := of_decide_eq_true (by assumption); obtain ⟨go6, co6, eo6, gb6, gl6, cl6, HG6⟩ := Kd.R_form HO_0.out (by omega); (first | cases eo6 | (injection eo6 with ea_ en_ ec_; (first | subst ea_ | (injection ea_ with ea_; subst ea_)); subst ec_; clear en_)); have GB6 := Aside0.mk gb6; have GG6 := Aside0.mk HG6; clear gb6 gl6 HG6; have HMgo6 := Aside0.mk (show (P0_ go6 ∨ w.heap.size ≤ go6) from (HO_0.out.1 _ rfl)); obtain ⟨ce6, hcl6, hM6, hcc6, hfr6⟩ := Kd.R_elem HO_0.out z63 (x5_1 : Int) p6 q6; obtain rfl := dg_ hM6; have hx6_0 : w12.cell? ⟨go6, (x5_1 : Int).toNat * 4, none⟩ = some (.string ((af_ x0_1 x5_1).f0)) := hcc6 0 _ rfl; have hx6_1 : w12.cell? ⟨go6, (x5_1 : Int).toNat * 4 + 1, none⟩ = some (.string ((af_ x0_1 x5_1).f1.f0)) := hcc6 1 _ rfl; have hx6_2 : w12.cell? ⟨go6, (x5_1 : Int).toNat * 4 + 2, none⟩ = some (.int .i64 ((af_ x0_1 x5_1).f1.f1)) := hcc6 2 _ rfl; have hx6_3 : w12.cell? ⟨go6, (x5_1 : Int).toNat * 4 + 3, none⟩ = some (.int .i64 ((af_ x0_1 x5_1).f1.f2)) := hcc6 3 _ rfl; have hf6_0 : w12.frozen? ⟨go6, (x5_1 : Int).toNat * 4, none⟩ = false := hfr6 0; have hf6_1 : w12.frozen? ⟨go6, (x5_1 : Int).toNat * 4 + 1, none⟩ = false := hfr6 1; have hf6_2 : w12.frozen? ⟨go6, (x5_1 : Int).toNat * 4 + 2, none⟩ = false := hfr6 2; have hf6_3 : w12.frozen? ⟨go6, (x5_1 : Int).toNat * 4 + 3, none⟩ = false := hfr6 3; clear hcl6 hcc6 hfr6 hM6; replace p6 := eq_true p6; replace q6 := eq_true q6; have HX13 := Aside0.mk (show Kd.R k63 63 w12 w0.heap.size (fun k_ => (P0_ k_ ∨ w.heap.size ≤ k_)) (.slice (some ⟨go6, 0, none⟩) x0_1.length co11) x0_1 from (rz HO_0.out)); obtain ⟨ce13, hcl13, hM13, hcc13, hfr13⟩ := Kd.R_elem HX13.out z63 (x5_1 : Int) (of_decide_eq_true (by assumption)) (by have h_ : (x5_1 : Int) < ((x0_1.length : Int) : Int) := of_decide_eq_true (by assumption); first | exact h_ | (have e_ := (Kd.bf_ HO_0.out).1; omega) | simpa using h_); obtain rfl := dg_ hM13; have HP13 := Kd.R_seg HX13.out (x5_1 : Int) (of_decide_eq_true (by assumption)) (by have h_ : (x5_1 : Int) < ((x0_1.length : Int) : Int) := of_decide_eq_true (by assumption); first | exact h_ | (have e_ := (Kd.bf_ HO_0.out).1; omega) | simpa using h_) (seg := [.string t101]) (j := 0) hcl13 hcc13 (show 1 ≤ 4 from by decide) (x' := (⟨t101, (⟨(af_ x0_1 x5_1).f1.f0, (af_ x0_1 x5_1).f1.f1, (af_ x0_1 x5_1).f1.f2⟩ : S61)⟩ : S63)) (cE_ _ _ _ (⟨t101, (⟨(af_ x0_1 x5_1).f1.f0, (af_ x0_1 x5_1).f1.f1, (af_ x0_1 x5_1).f1.f2⟩ : S61)⟩ : S63) ) (fun _ hk => hk); have hx13_0 := hcc13 0 _ rfl; (try simp only [show (k63).sz = 4 from rfl, Nat.mul_one, Nat.add_zero] at hx13_0); have hf13_0 := hfr13 0; (try simp only [show (k63).sz = 4 from rfl, Nat.mul_one, Nat.add_zero] at hf13_0); clear hcl13 hcc13 hfr13 hM13) | ((with_reducible refine cK_ (t := 9) (p := 17) rfl ?_); refine cC_ (t := 9) (p := 17) (v := ?vo_w14) (w1 := (w12.setCell ⟨go6, (x5_1 : Int).toNat * 4, none⟩ (.string t101))) ?hg ?ho ?hn ?hr ?_; (case ho => rfl); (case hg => rfl); (case hn => rfl); (case hr => (go_simp; try rfl)); intro w14 hw; have hg : w12.grownBy w14 (some go6) := (by rw [hw]; exact HP13.2); have hp_ : Kd.R k63 63 w14 w0.heap.size (fun k_ => (P0_ k_ ∨ w.heap.size ≤ k_)) (.slice (some ⟨go6, 0, none⟩) x0_1.length co11) y102 := (by rw [hw, Ny102.out]; exact HP13.1); clear HP13; replace HB := Aside0.mk ((by rw [hw]; exact ac_ (HB.out) GB6.out : Below w0.heap.size w0 w14)); replace HK := Aside0.mk (Kept.of_grown (S := (fun k_ => P0_ k_)) hg (hz HK.out) (fun k_ e_ => (HO_0.out.1 k_ e_))); replace HO_0 := Aside0.mk (hp_); clear hg hw hp_) | ((with_reducible refine am_ (f := 43) rfl ?_); refine aX_ (some 23) rfl rfl Try.func43 (by kernel_rfl) rfl #[.int .i64 (wrap64 (x1_1 + 1))] rfl (by first | rfl | (simp only [List.map_toArray, List.map_cons, List.map_nil]; first | done | rfl)) ?_; (with_reducible refine (bk_.calls k1 (wrap64 (x1_1 + 1)) t103 _ A7.out).mono ?_); rintro e w15 ⟨rfl, hb⟩; refine ⟨_, rfl, ?_⟩; replace HO_0 := Aside0.mk (Kd.aH_ (rz HO_0.out) hb); replace HK := Aside0.mk (Kept.below (S := (fun k_ => P0_ k_)) (hz HK.out) hb); replace HB := Aside0.mk (ag_ (bz HB.out) hb); (try clear hb); have p8 : 0 ≤ (x5_1 : Int) := of_decide_eq_true (by assumption); have q8 : (x5_1 : Int) < ((x0_1.length : Int) : Int) := of_decide_eq_true (by assumption); obtain ⟨ce8, hcl8, hM8, hcc8, hfr8⟩ := Kd.R_elem HO_0.out z63 (x5_1 : Int) p8 q8; obtain rfl := dg_ hM8; have hx8_0 : w15.cell? ⟨go6, (x5_1 : Int).toNat * 4, none⟩ = some (.string ((af_ y102 x5_1).f0)) := hcc8 0 _ rfl; have hx8_1 : w15.cell? ⟨go6, (x5_1 : Int).toNat * 4 + 1, none⟩ = some (.string ((af_ y102 x5_1).f1.f0)) := hcc8 1 _ rfl; have hx8_2 : w15.cell? ⟨go6, (x5_1 : Int).toNat * 4 + 2, none⟩ = some (.int .i64 ((af_ y102 x5_1).f1.f1)) := hcc8 2 _ rfl; have hx8_3 : w15.cell? ⟨go6, (x5_1 : Int).toNat * 4 + 3, none⟩ = some (.int .i64 ((af_ y102 x5_1).f1.f2)) := hcc8 3 _ rfl; have hf8_0 : w15.frozen? ⟨go6, (x5_1 : Int).toNat * 4, none⟩ = false := hfr8 0; have hf8_1 : w15.frozen? ⟨go6, (x5_1 : Int).toNat * 4 + 1, none⟩ = false := hfr8 1; have hf8_2 : w15.frozen? ⟨go6, (x5_1 : Int).toNat * 4 + 2, none⟩ = false := hfr8 2; have hf8_3 : w15.frozen? ⟨go6, (x5_1 : Int).toNat * 4 + 3, none⟩ = false := hfr8 3; clear hcl8 hcc8 hfr8 hM8; replace p8 := eq_true p8; replace q8 := eq_true q8; have HX16 := Aside0.mk (show Kd.R k63 63 w15 w0.heap.size (fun k_ => (P0_ k_ ∨ w.heap.size ≤ k_)) (.slice (some ⟨go6, 0, none⟩) x0_1.length co11) y102 from (rz HO_0.out)); obtain ⟨ce16, hcl16, hM16, hcc16, hfr16⟩ := Kd.R_elem HX16.out z63 (x5_1 : Int) (of_decide_eq_true (by assumption)) (by have h_ : (x5_1 : Int) < ((x0_1.length : Int) : Int) := of_decide_eq_true (by assumption); first | exact h_ | (have e_ := (Kd.bf_ HO_0.out).1; omega) | simpa using h_); obtain rfl := dg_ hM16; have HP16 := Kd.R_seg HX16.out (x5_1 : Int) (of_decide_eq_true (by assumption)) (by have h_ : (x5_1 : Int) < ((x0_1.length : Int) : Int) := of_decide_eq_true (by assumption); first | exact h_ | (have e_ := (Kd.bf_ HO_0.out).1; omega) | simpa using h_) (seg := [.string t103]) (j := 1) hcl16 hcc16 (show 2 ≤ 4 from by decide) (x' := (⟨(af_ y102 x5_1).f0, (⟨t103, (af_ y102 x5_1).f1.f1, (af_ y102 x5_1).f1.f2⟩ : S61)⟩ : S63)) (cE_ _ _ _ (⟨(af_ y102 x5_1).f0, (⟨t103, (af_ y102 x5_1).f1.f1, (af_ y102 x5_1).f1.f2⟩ : S61)⟩ : S63) ) (fun _ hk => hk); have hx16_1 := hcc16 1 _ rfl; (try simp only [show (k63).sz = 4 from rfl, Nat.mul_one, Nat.add_zero] at hx16_1); have hf16_1 := hfr16 1; (try simp only [show (k63).sz = 4 from rfl, Nat.mul_one, Nat.add_zero] at hf16_1); clear hcl16 hcc16 hfr16 hM16) | ((with_reducible refine cK_ (t := 9) (p := 26) rfl ?_); refine cC_ (t := 9) (p := 26) (v := ?vo_w17) (w1 := (w15.setCell ⟨go6, (x5_1 : Int).toNat * 4 + 1, none⟩ (.string t103))) ?hg ?ho ?hn ?hr ?_; (case ho => rfl); (case hg => rfl); (case hn => rfl); (case hr => (go_simp; try rfl)); intro w17 hw; have hg : w15.grownBy w17 (some go6) := (by rw [hw]; exact HP16.2); have hp_ : Kd.R k63 63 w17 w0.heap.size (fun k_ => (P0_ k_ ∨ w.heap.size ≤ k_)) (.slice (some ⟨go6, 0, none⟩) x0_1.length co11) y104 := (by rw [hw, Ny104.out]; exact HP16.1); clear HP16; replace HB := Aside0.mk ((by rw [hw]; exact ac_ (HB.out) GB6.out : Below w0.heap.size w0 w17)); replace HK := Aside0.mk (Kept.of_grown (S := (fun k_ => P0_ k_)) hg (hz HK.out) (fun k_ e_ => (HO_0.out.1 k_ e_))); replace HO_0 := Aside0.mk (hp_); clear hg hw hp_; have p9 : 0 ≤ (x5_1 : Int) := of_decide_eq_true (by assumption); have q9 : (x5_1 : Int) < ((x0_1.length : Int) : Int) := of_decide_eq_true (by assumption); obtain ⟨ce9, hcl9, hM9, hcc9, hfr9⟩ := Kd.R_elem HO_0.out z63 (x5_1 : Int) p9 q9; obtain rfl := dg_ hM9; have hx9_0 : w17.cell? ⟨go6, (x5_1 : Int).toNat * 4, none⟩ = some (.string ((af_ y104 x5_1).f0)) := hcc9 0 _ rfl; have hx9_1 : w17.cell? ⟨go6, (x5_1 : Int).toNat * 4 + 1, none⟩ = some (.string ((af_ y104 x5_1).f1.f0)) := hcc9 1 _ rfl; have hx9_2 : w17.cell? ⟨go6, (x5_1 : Int).toNat * 4 + 2, none⟩ = some (.int .i64 ((af_ y104 x5_1).f1.f1)) := hcc9 2 _ rfl; have hx9_3 : w17.cell? ⟨go6, (x5_1 : Int).toNat * 4 + 3, none⟩ = some (.int .i64 ((af_ y104 x5_1).f1.f2)) := hcc9 3 _ rfl; have hf9_0 : w17.frozen? ⟨go6, (x5_1 : Int).toNat * 4, none⟩ = false := hfr9 0; have hf9_1 : w17.frozen? ⟨go6, (x5_1 : Int).toNat * 4 + 1, none⟩ = false := hfr9 1; have hf9_2 : w17.frozen? ⟨go6, (x5_1 : Int).toNat * 4 + 2, none⟩ = false := hfr9 2; have hf9_3 : w17.frozen? ⟨go6, (x5_1 : Int).toNat * 4 + 3, none⟩ = false := hfr9 3; clear hcl9 hcc9 hfr9 hM9; replace p9 := eq_true p9; replace q9 := eq_true q9; have HX18 := Aside0.mk (show Kd.R k63 63 w17 w0.heap.size (fun k_ => (P0_ k_ ∨ w.heap.size ≤ k_)) (.slice (some ⟨go6, 0, none⟩) x0_1.length co11) y104 from (rz HO_0.out)); obtain ⟨ce18, hcl18, hM18, hcc18, hfr18⟩ := Kd.R_elem HX18.out z63 (x5_1 : Int) (of_decide_eq_true (by assumption)) (by have h_ : (x5_1 : Int) < ((x0_1.length : Int) : Int) := of_decide_eq_true (by assumption); first | exact h_ | (have e_ := (Kd.bf_ HO_0.out).1; omega) | simpa using h_); obtain rfl := dg_ hM18; have HP18 := Kd.R_seg HX18.out (x5_1 : Int) (of_decide_eq_true (by assumption)) (by have h_ : (x5_1 : Int) < ((x0_1.length : Int) : Int) := of_decide_eq_true (by assumption); first | exact h_ | (have e_ := (Kd.bf_ HO_0.out).1; omega) | simpa using h_) (seg := [.int .i64 (wrap64 ((wrap64 (x1_1 + 1)) + 1))]) (j := 2) hcl18 hcc18 (show 3 ≤ 4 from by decide) (x' := (⟨(af_ y104 x5_1).f0, (⟨(af_ y104 x5_1).f1.f0, wrap64 ((wrap64 (x1_1 + 1)) + 1), (af_ y104 x5_1).f1.f2⟩ : S61)⟩ : S63)) (cE_ _ _ _ (⟨(af_ y104 x5_1).f0, (⟨(af_ y104 x5_1).f1.f0, wrap64 ((wrap64 (x1_1 + 1)) + 1), (af_ y104 x5_1).f1.f2⟩ : S61)⟩ : S63) ) (fun _ hk => hk); have hx18_2 := hcc18 2 _ rfl; (try simp only [show (k63).sz = 4 from rfl, Nat.mul_one, Nat.add_zero] at hx18_2); have hf18_2 := hfr18 2; (try simp only [show (k63).sz = 4 from rfl, Nat.mul_one, Nat.add_zero] at hf18_2); clear hcl18 hcc18 hfr18 hM18) | ((with_reducible refine cK_ (t := 2) (p := 34) rfl ?_); refine cC_ (t := 2) (p := 34) (v := ?vo_w19) (w1 := (w17.setCell ⟨go6, (x5_1 : Int).toNat * 4 + 2, none⟩ (.int .i64 (wrap64 ((wrap64 (x1_1 + 1)) + 1))))) ?hg ?ho ?hn ?hr ?_; (case ho => rfl); (case hg => rfl); (case hn => rfl); (case hr => (go_simp; try rfl)); intro w19 hw; have hg : w17.grownBy w19 (some go6) := (by rw [hw]; exact HP18.2); have hp_ : Kd.R k63 63 w19 w0.heap.size (fun k_ => (P0_ k_ ∨ w.heap.size ≤ k_)) (.slice (some ⟨go6, 0, none⟩) x0_1.length co11) y105 := (by rw [hw, Ny105.out]; exact HP18.1); clear HP18; replace HB := Aside0.mk ((by rw [hw]; exact ac_ (HB.out) GB6.out : Below w0.heap.size w0 w19)); replace HK := Aside0.mk (Kept.of_grown (S := (fun k_ => P0_ k_)) hg (hz HK.out) (fun k_ e_ => (HO_0.out.1 k_ e_))); replace HO_0 := Aside0.mk (hp_); clear hg hw hp_; have p10 : 0 ≤ (x5_1 : Int) := of_decide_eq_true (by assumption); have q10 : (x5_1 : Int) < ((x0_1.length : Int) : Int) := of_decide_eq_true (by assumption); obtain ⟨ce10, hcl10, hM10, hcc10, hfr10⟩ := Kd.R_elem HO_0.out z63 (x5_1 : Int) p10 q10; obtain rfl := dg_ hM10; have hx10_0 : w19.cell? ⟨go6, (x5_1 : Int).toNat * 4, none⟩ = some (.string ((af_ y105 x5_1).f0)) := hcc10 0 _ rfl; have hx10_1 : w19.cell? ⟨go6, (x5_1 : Int).toNat * 4 + 1, none⟩ = some (.string ((af_ y105 x5_1).f1.f0)) := hcc10 1 _ rfl; have hx10_2 : w19.cell? ⟨go6, (x5_1 : Int).toNat * 4 + 2, none⟩ = some (.int .i64 ((af_ y105 x5_1).f1.f1)) := hcc10 2 _ rfl; have hx10_3 : w19.cell? ⟨go6, (x5_1 : Int).toNat * 4 + 3, none⟩ = some (.int .i64 ((af_ y105 x5_1).f1.f2)) := hcc10 3 _ rfl; have hf10_0 : w19.frozen? ⟨go6, (x5_1 : Int).toNat * 4, none⟩ = false := hfr10 0; have hf10_1 : w19.frozen? ⟨go6, (x5_1 : Int).toNat * 4 + 1, none⟩ = false := hfr10 1; have hf10_2 : w19.frozen? ⟨go6, (x5_1 : Int).toNat * 4 + 2, none⟩ = false := hfr10 2; have hf10_3 : w19.frozen? ⟨go6, (x5_1 : Int).toNat * 4 + 3, none⟩ = false := hfr10 3; clear hcl10 hcc10 hfr10 hM10; replace p10 := eq_true p10; replace q10 := eq_true q10; have HX20 := Aside0.mk (show Kd.R k63 63 w19 w0.heap.size (fun k_ => (P0_ k_ ∨ w.heap.size ≤ k_)) (.slice (some ⟨go6, 0, none⟩) x0_1.length co11) y105 from (rz HO_0.out)); obtain ⟨ce20, hcl20, hM20, hcc20, hfr20⟩ := Kd.R_elem HX20.out z63 (x5_1 : Int) (of_decide_eq_true (by assumption)) (by have h_ : (x5_1 : Int) < ((x0_1.length : Int) : Int) := of_decide_eq_true (by assumption); first | exact h_ | (have e_ := (Kd.bf_ HO_0.out).1; omega) | simpa using h_); obtain rfl := dg_ hM20; have HP20 := Kd.R_seg HX20.out (x5_1 : Int) (of_decide_eq_true (by assumption)) (by have h_ : (x5_1 : Int) < ((x0_1.length : Int) : Int) := of_decide_eq_true (by assumption); first | exact h_ | (have e_ := (Kd.bf_ HO_0.out).1; omega) | simpa using h_) (seg := [.int .i64 (wrap64 ((wrap64 ((wrap64 (x1_1 + 1)) + 1)) + 1))]) (j := 3) hcl20 hcc20 (show 4 ≤ 4 from by decide) (x' := (⟨(af_ y105 x5_1).f0, (⟨(af_ y105 x5_1).f1.f0, (af_ y105 x5_1).f1.f1, wrap64 ((wrap64 ((wrap64 (x1_1 + 1)) + 1)) + 1)⟩ : S61)⟩ : S63)) (cE_ _ _ _ (⟨(af_ y105 x5_1).f0, (⟨(af_ y105 x5_1).f1.f0, (af_ y105 x5_1).f1.f1, wrap64 ((wrap64 ((wrap64 (x1_1 + 1)) + 1)) + 1)⟩ : S61)⟩ : S63) ) (fun _ hk => hk); have hx20_3 := hcc20 3 _ rfl; (try simp only [show (k63).sz = 4 from rfl, Nat.mul_one, Nat.add_zero] at hx20_3); have hf20_3 := hfr20 3; (try simp only [show (k63).sz = 4 from rfl, Nat.mul_one, Nat.add_zero] at hf20_3); clear hcl20 hcc20 hfr20 hM20) | ((with_reducible refine cK_ (t := 2) (p := 42) rfl ?_); refine cC_ (t := 2) (p := 42) (v := ?vo_w21) (w1 := (w19.setCell ⟨go6, (x5_1 : Int).toNat * 4 + 3, none⟩ (.int .i64 (wrap64 ((wrap64 ((wrap64 (x1_1 + 1)) + 1)) + 1))))) ?hg ?ho ?hn ?hr ?_; (case ho => rfl); (case hg => rfl); (case hn => rfl); (case hr => (go_simp; try rfl)); intro w21 hw; have hg : w19.grownBy w21 (some go6) := (by rw [hw]; exact HP20.2); have hp_ : Kd.R k63 63 w21 w0.heap.size (fun k_ => (P0_ k_ ∨ w.heap.size ≤ k_)) (.slice (some ⟨go6, 0, none⟩) x0_1.length co11) y106 := (by rw [hw, Ny106.out]; exact HP20.1); clear HP20; replace HB := Aside0.mk ((by rw [hw]; exact ac_ (HB.out) GB6.out : Below w0.heap.size w0 w21)); replace HK := Aside0.mk (Kept.of_grown (S := (fun k_ => P0_ k_)) hg (hz HK.out) (fun k_ e_ => (HO_0.out.1 k_ e_))); replace HO_0 := Aside0.mk (hp_); clear hg hw hp_))
   go_roundg k1
   case measure => have := HK1.out; omega
   case rel => exact ⟨(y106), (wrap64 ((wrap64 ((wrap64 ((wrap64 (x1_1 + 1)) + 1)) + 1)) + 1)), (wrap64 (x5_1 + 1)), (by first | rfl | (simp; done) | (simp [*]; done)), (by first | rfl | (simp; done) | (simp [*]; done)), H', ⟨by have := HK1.out; omega⟩, ⟨rz HO_0.out⟩, ⟨hz HK.out⟩, ⟨bz HB.out⟩⟩
end Go.Proofs.Ytiheginanghhjaa.Q
