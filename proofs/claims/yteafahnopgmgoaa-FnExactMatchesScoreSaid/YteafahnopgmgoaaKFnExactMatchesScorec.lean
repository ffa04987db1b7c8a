/- The score of matches, by the program as by the reference. This text holds the last walks, the plain law and the row. -/
import Derived.Test.YteafahnopgmgoaaRows
import Derived.WalkKit
import Derived.ProofKit
import Derived.OpenShut
import Derived.ShutString
import Derived.ChangeOld
import Derived.Below
import Derived.SizedLaws
import Derived.Carry
import Derived.Test.YteafahnopgmgoaaKFnExactMatchesScorea
import Derived.Test.YteafahnopgmgoaaKFnExactMatchesScoreb
namespace Go.Proofs.Yteafahnopgmgoaa.Q
open Go.RowKit Go.Proofs.YteafahnopgmgoaaW.PrintWords Go.Proofs.YteafahnopgmgoaaW.PrintLast Go.Proofs.YteafahnopgmgoaaW.PrintMore
attribute [local go_sem] max2_int min2_int max_two min_two max_three min_three max_four min_four   -- for this text's walks alone
set_option linter.unusedVariables false
set_option linter.unusedSimpArgs false

/-! ### laws_markInt64S: function 45 -/
def laws_markInt64S.l0 : Nat → List Int → Int → Int → Option (Int × List Int)
  | 0, _, _, _ => none
  | k + 1, x0, x1, x5 => if x5 < (x0.length : Int) then (if 0 ≤ x5 then (laws_markInt64S.l0 k (x0.set (x5 : Int).toNat x1) (wrap64 (x1 + 1)) (wrap64 (x5 + 1))) else (none)) else (some (x1, x0))
def laws_markInt64S.f (k : Nat) (l0 : List Int) (a1 : Int) : Option (Int × List Int) := laws_markInt64S.l0 k l0 a1 0
theorem laws_markInt64S.mono_l : ∀ k, (∀ y0 y1 y2, LeO (laws_markInt64S.l0 k y0 y1 y2) (laws_markInt64S.l0 (k + 1) y0 y1 y2))
  | 0 => fun _ _ _ r h => by simp [laws_markInt64S.l0] at h
  | k + 1 => by
    have ih0 := laws_markInt64S.mono_l k
    · intro y0 y1 y2
      unfold laws_markInt64S.l0
      repeat' first
      | (with_reducible exact ih0 _ _ _)
      | (with_reducible exact LeO.refl _)
      | (with_reducible exact LeO.none _)
      | (with_reducible refine LeO.ite ?_ ?_)
      | (with_reducible refine LeO.bind ?_ (fun _ => ?_))
      | exact ih0 _ _ _
      | exact LeO.none _
      | refine LeO.ite ?_ ?_
      | refine LeO.bind ?_ (fun _ => ?_)
theorem laws_markInt64S.mono : ∀ a0 a1 k, LeO (laws_markInt64S.f k a0 a1) (laws_markInt64S.f (k + 1) a0 a1) := by
  intro a0 a1 k
  have ih0 := laws_markInt64S.mono_l k
  unfold laws_markInt64S.f
  repeat' first
      | (with_reducible exact ih0 _ _ _)
      | (with_reducible exact LeO.refl _)
      | (with_reducible exact LeO.none _)
      | (with_reducible refine LeO.ite ?_ ?_)
      | (with_reducible refine LeO.bind ?_ (fun _ => ?_))
      | exact ih0 _ _ _
      | exact LeO.none _
      | refine LeO.ite ?_ ?_
      | refine LeO.bind ?_ (fun _ => ?_)
set_option maxHeartbeats 8000000 in
set_option maxRecDepth 100000 in
theorem laws_markInt64S.calls (k : Nat) (P0_ : Nat → Prop) (u9000_ : Value) (l0 : List Int) (a1 : Int) (r1 : Int) (r2 : List Int) (w0 w : World) (hB : Below w0.heap.size w0 w) (ho0 : Kd.R (Kd.int .i64) 2 w w0.heap.size P0_ u9000_ l0) (h : laws_markInt64S.f k l0 a1 = some (r1, r2)) :
    Calls Try.prog 45 #[u9000_, .int .i64 a1] w fun e w' => e = .returned (.int .i64 r1) ∧ Kd.R (Kd.int .i64) 2 w' w0.heap.size (fun k_ => (P0_ k_ ∨ w.heap.size ≤ k_)) u9000_ r2 ∧ Below w0.heap.size w0 w' ∧ Kept w w' (fun k_ => P0_ k_) := by
  have HO0 := Aside0.mk (show Kd.R (Kd.int .i64) 2 w w0.heap.size (fun k_ => (P0_ k_ ∨ w.heap.size ≤ k_)) u9000_ l0 from Kd.R_mono ho0 (fun k_ hk => (.inl hk)))
  have HK := Aside0.mk (Kept.refl w (fun k_ => P0_ k_))
  have HW0 := Aside0.mk hB.size
  have HB := Aside0.mk hB
  clear hB
  have H : (laws_markInt64S.l0 k l0 a1 0) = some (r1, r2) := h
  clear h
  have H' := Aside0.mk H
  clear H
  go_enter Try.func45, Try.ntmps45
  go_wp2
  go_loopg [1, 5] k (fun kq v1 v5 w' => ∃ (x0_1 : List Int) (x1_1 : Int) (x5_1 : Int), v1 = .int .i64 x1_1 ∧ v5 = .int .i64 x5_1 ∧ Aside0 (laws_markInt64S.l0 kq x0_1 x1_1 x5_1 = some (r1, r2)) ∧ Aside0 (kq ≤ k) ∧ Aside0 (Kd.R (Kd.int .i64) 2 w' w0.heap.size (fun k_ => (P0_ k_ ∨ w.heap.size ≤ k_)) u9000_ x0_1) ∧ Aside0 (Kept w w' (fun k_ => P0_ k_)) ∧ Aside0 (Below w0.heap.size w0 w'))
  case atStart => exact ⟨(l0), (a1), (0), (by first | rfl | (simp; done) | (simp [*]; done)), (by first | rfl | (simp; done) | (simp [*]; done)), H', ⟨Nat.le_refl _⟩, ⟨by (with_reducible repeat (first | apply Kd.R_alloc | apply Kd.R_drewN | apply Kd.R_drew)); exact HO0.out⟩, ⟨by repeat (first | (with_reducible first | exact HK.out | apply Kept.alloc | apply Kept.drewN | apply Kept.drew) | exact HK.out)⟩, ⟨by repeat (first | (with_reducible first | exact HB.out | apply below_alloc | apply pw_below_drewN | apply below_drew1) | exact HB.out)⟩⟩
  case round =>
    clear H'
    try clear p2
    obtain ⟨x0_1, x1_1, x5_1, rfl, rfl, HA, HK1, HO_0, HK, HB⟩ := hrel
    cases gk with
    | zero => exact absurd HA.out (by simp [laws_markInt64S.l0])
    | succ k1 =>
      have H := HA.out
      clear HA
      simp only [laws_markInt64S.l0] at H
      by_cases c3 : x5_1 < (x0_1.length : Int)
      · rw [if_pos c3] at H
        have c3b0 : decide (x5_1 < (x0_1.length : Int)) = true := decide_eq_true c3
        clear c3
        by_cases c4 : 0 ≤ x5_1
        · rw [if_pos c4] at H
          have c4b0 : decide (0 ≤ x5_1) = true := decide_eq_true c4
          clear c4
          obtain ⟨y101, hy101⟩ : ∃ y_ : List Int, y_ = (x0_1.set (x5_1 : Int).toNat x1_1) := ⟨_, rfl⟩
          replace H : (laws_markInt64S.l0 k1 y101 (wrap64 (x1_1 + 1)) (wrap64 (x5_1 + 1))) = some (r1, r2) := by first | (rw [hy101]; with_reducible exact H) | (have H2_ := (Option.bind_some _ _).symm.trans H; rw [hy101]; with_reducible exact H2_) | (have H2_ := (Option.bind_some _ _).symm.trans H; with_reducible exact H2_) | with_reducible exact H | (rw [hy101]; exact H) | exact H
          have Ny101 := Aside0.mk hy101
          clear hy101
          have H' := Aside0.mk H
          clear H
          obtain ⟨Ao6, co6, eo6⟩ := Kd.R_slice HO_0.out
          subst eo6
          have p5 : 0 ≤ (x5_1 : Int) := of_decide_eq_true (by first | (with_reducible assumption) | assumption)
          have q5 : (x5_1 : Int) < ((x0_1.length : Int) : Int) := of_decide_eq_true (by first | (with_reducible assumption) | assumption)
          obtain ⟨go5, co5, eo5, gb5, gl5, cl5, HG5⟩ := Kd.R_form HO_0.out (by omega)
          (first | cases eo5 | (injection eo5 with ea_ en_ ec_; (first | subst ea_ | (injection ea_ with ea_; subst ea_)); subst ec_; clear en_))
          have GB5 := Aside0.mk gb5
          have GG5 := Aside0.mk HG5
          clear gb5 gl5 HG5
          have HMgo5 := Aside0.mk (show (P0_ go5 ∨ w.heap.size ≤ go5) from (HO_0.out.1 _ rfl))
          obtain ⟨hx5_0, hf5_0⟩ := Kd.R_celln 0 HO_0.out (x5_1 : Int) p5 q5
          replace p5 := eq_true p5
          replace q5 := eq_true q5
          have HP7 := Kd.R_putg HO_0.out (x5_1 : Int) x1_1
          go_wp2_with (first | ((with_reducible refine gate_store (t := 2) (p := 15) rfl ?_); refine store_event (t := 2) (p := 15) (v := ?vo_w8) (w1 := (wr.setCell ⟨go5, (x5_1 : Int).toNat, none⟩ (.int .i64 x1_1))) ?hg ?ho ?hn ?hr ?_; (case ho => rfl); (case hg => rfl); (case hn => rfl); (case hr => first | (go_simp; done) | (go_simp; rfl)); intro w8 hw; have hg : wr.grownBy w8 (some go5) := (by rw [hw]; exact HP7.2); have hp_ : Kd.R (Kd.int .i64) 2 w8 w0.heap.size (fun k_ => (P0_ k_ ∨ w.heap.size ≤ k_)) (.slice (some ⟨go5, 0, none⟩) x0_1.length co6) y101 := (by rw [hw, Ny101.out]; exact HP7.1); clear HP7; have n0_ := Aside0.mk (hp_); have n1_ := Aside0.mk ((by rw [hw]; exact below_set (HB.out) GB5.out : Below w0.heap.size w0 w8)); have n2_ := Aside0.mk (Kept.of_grown (S := (fun k_ => P0_ k_)) hg (by repeat (first | (with_reducible first | exact HK.out | apply Kept.alloc | apply Kept.drewN | apply Kept.drew) | exact HK.out)) (fun k_ e_ => (HO_0.out.1 k_ e_))); clear HO_0; clear HB; clear HK; have HO_0 := n0_; have HB := n1_; have HK := n2_; clear n0_ n1_ n2_; clear hg hw hp_))
          go_roundg k1
          case measure => have := HK1.out; omega
          case rel => exact ⟨(y101), (wrap64 (x1_1 + 1)), (wrap64 (x5_1 + 1)), (by first | rfl | (simp; done) | (simp [*]; done)), (by first | rfl | (simp; done) | (simp [*]; done)), H', ⟨by have := HK1.out; omega⟩, ⟨by (with_reducible repeat (first | apply Kd.R_alloc | apply Kd.R_drewN | apply Kd.R_drew)); exact HO_0.out⟩, ⟨by repeat (first | (with_reducible first | exact HK.out | apply Kept.alloc | apply Kept.drewN | apply Kept.drew) | exact HK.out)⟩, ⟨by repeat (first | (with_reducible first | exact HB.out | apply below_alloc | apply pw_below_drewN | apply below_drew1) | exact HB.out)⟩⟩
        · rw [if_neg c4] at H
          exact absurd H (by simp)
      · rw [if_neg c3] at H
        have c3b0 : decide (x5_1 < (x0_1.length : Int)) = false := decide_eq_false c3
        clear c3
        simp only [Option.some.injEq, Prod.mk.injEq] at H
        obtain ⟨rfl, rfl⟩ := H
        obtain ⟨Ao9, co9, eo9⟩ := Kd.R_slice HO_0.out
        subst eo9
        go_wp2
        go_ret
        exact ⟨by first | rfl | (simp [errW_none, errW_some] <;> rfl) | (simp [*, errW_none, errW_some] <;> rfl), by (with_reducible repeat (first | apply Kd.R_alloc | apply Kd.R_drewN | apply Kd.R_drew)); exact HO_0.out, by repeat (first | (with_reducible first | exact HB.out | apply below_alloc | apply pw_below_drewN | apply below_drew1) | exact HB.out), by repeat (first | (with_reducible first | exact HK.out | apply Kept.alloc | apply Kept.drewN | apply Kept.drew) | exact HK.out)⟩

end Go.Proofs.Yteafahnopgmgoaa.Q
namespace Go.Proofs.Yteafahnopgmgoaa.Q
open Go.RowKit Go.Proofs.YteafahnopgmgoaaW.PrintWords Go.Proofs.YteafahnopgmgoaaW.PrintLast Go.Proofs.YteafahnopgmgoaaW.PrintMore
attribute [local go_sem] max2_int min2_int max_two min_two max_three min_three max_four min_four   -- for this text's walks alone
set_option linter.unusedVariables false
set_option linter.unusedSimpArgs false

/-! ### laws_heldInt64S: function 46 -/
def laws_heldInt64S.l0 : Nat → List Int → Int → Int → Option (Int)
  | 0, _, _, _ => none
  | k + 1, x0, x1, x5 => if x5 < (x0.length : Int) then (if 0 ≤ x5 then (if (rd x0 x5) = x1 then (laws_heldInt64S.l0 k x0 (wrap64 (x1 + 1)) (wrap64 (x5 + 1))) else (some (-1))) else (none)) else (some x1)
def laws_heldInt64S.f (k : Nat) (l0 : List Int) (a1 : Int) : Option (Int) := laws_heldInt64S.l0 k l0 a1 0
theorem laws_heldInt64S.mono_l : ∀ k, (∀ y0 y1 y2, LeO (laws_heldInt64S.l0 k y0 y1 y2) (laws_heldInt64S.l0 (k + 1) y0 y1 y2))
  | 0 => fun _ _ _ r h => by simp [laws_heldInt64S.l0] at h
  | k + 1 => by
    have ih0 := laws_heldInt64S.mono_l k
    · intro y0 y1 y2
      unfold laws_heldInt64S.l0
      repeat' first
      | (with_reducible exact ih0 _ _ _)
      | (with_reducible exact LeO.refl _)
      | (with_reducible exact LeO.none _)
      | (with_reducible refine LeO.ite ?_ ?_)
      | (with_reducible refine LeO.bind ?_ (fun _ => ?_))
      | exact ih0 _ _ _
      | exact LeO.none _
      | refine LeO.ite ?_ ?_
      | refine LeO.bind ?_ (fun _ => ?_)
theorem laws_heldInt64S.mono : ∀ a0 a1 k, LeO (laws_heldInt64S.f k a0 a1) (laws_heldInt64S.f (k + 1) a0 a1) := by
  intro a0 a1 k
  have ih0 := laws_heldInt64S.mono_l k
  unfold laws_heldInt64S.f
  repeat' first
      | (with_reducible exact ih0 _ _ _)
      | (with_reducible exact LeO.refl _)
      | (with_reducible exact LeO.none _)
      | (with_reducible refine LeO.ite ?_ ?_)
      | (with_reducible refine LeO.bind ?_ (fun _ => ?_))
      | exact ih0 _ _ _
      | exact LeO.none _
      | refine LeO.ite ?_ ?_
      | refine LeO.bind ?_ (fun _ => ?_)
set_option maxHeartbeats 8000000 in
set_option maxRecDepth 100000 in
theorem laws_heldInt64S.calls (k : Nat) (A0 : Option Addr) (c0 : Nat) (l0 : List Int) (a1 : Int) (r : Int) (w : World) (hr0 : Kd.C (Kd.int .i64) w A0 l0.length l0) (hc0 : l0.length ≤ c0) (h : laws_heldInt64S.f k l0 a1 = some r) :
    Calls Try.prog 46 #[.slice A0 l0.length c0, .int .i64 a1] w fun e w' => e = .returned (.int .i64 r) ∧ Drawn0 w w' := by
  have HR0 := Aside0.mk hr0
  have HC0 := Aside0.mk hc0
  clear hr0 hc0
  have H : (laws_heldInt64S.l0 k l0 a1 0) = some r := h
  clear h
  have H' := Aside0.mk H
  clear H
  go_enter Try.func46, Try.ntmps46
  go_wp2
  go_loopg [1, 5] k (fun kq v1 v5 w' => ∃ (x1_1 : Int) (x5_1 : Int), v1 = .int .i64 x1_1 ∧ v5 = .int .i64 x5_1 ∧ Aside0 (laws_heldInt64S.l0 kq l0 x1_1 x5_1 = some r) ∧ Aside0 (kq ≤ k) ∧ Drawn0 w w')
  case atStart => exact ⟨(a1), (0), (by first | rfl | (simp; done) | (simp [*]; done)), (by first | rfl | (simp; done) | (simp [*]; done)), H', ⟨Nat.le_refl _⟩, by repeat (first | exact Drawn0.refl _ | apply Drawn0.step)⟩
  case round =>
    clear H'
    try clear p2
    obtain ⟨x1_1, x5_1, rfl, rfl, HA, HK1, ⟨m1, rfl⟩⟩ := hrel
    cases gk with
    | zero => exact absurd HA.out (by simp [laws_heldInt64S.l0])
    | succ k1 =>
      have H := HA.out
      clear HA
      simp only [laws_heldInt64S.l0] at H
      by_cases c3 : x5_1 < (l0.length : Int)
      · rw [if_pos c3] at H
        have c3b0 : decide (x5_1 < (l0.length : Int)) = true := decide_eq_true c3
        clear c3
        by_cases c4 : 0 ≤ x5_1
        · rw [if_pos c4] at H
          have c4b0 : decide (0 ≤ x5_1) = true := decide_eq_true c4
          clear c4
          by_cases c5 : (rd l0 x5_1) = x1_1
          · rw [if_pos c5] at H
            have c5b0 : ((rd l0 x5_1) == x1_1) = true := beq_iff_eq.mpr c5
            have c5b1 : ((rd l0 x5_1) != x1_1) = false := bne_eq_false_iff_eq.mpr c5
            clear c5
            have H' := Aside0.mk H
            clear H
            have p101 : 0 ≤ (x5_1 : Int) := of_decide_eq_true (by first | (with_reducible assumption) | assumption)
            have q101 : x5_1 < (l0.length : Int) := of_decide_eq_true (by first | (with_reducible assumption) | assumption)
            obtain ⟨ad101, e101, hx101_0⟩ := Kd.at_int HR0.out x5_1 p101 q101
            cases e101
            replace p101 := eq_true p101
            replace q101 := eq_true q101
            go_wp2
            go_roundg k1
            case measure => have := HK1.out; omega
            case rel => exact ⟨(wrap64 (x1_1 + 1)), (wrap64 (x5_1 + 1)), (by first | rfl | (simp; done) | (simp [*]; done)), (by first | rfl | (simp; done) | (simp [*]; done)), H', ⟨by have := HK1.out; omega⟩, by repeat (first | exact Drawn0.refl _ | apply Drawn0.step)⟩
          · rw [if_neg c5] at H
            have c5b0 : ((rd l0 x5_1) == x1_1) = false := beq_eq_false_iff_ne.mpr c5
            have c5b1 : ((rd l0 x5_1) != x1_1) = true := bne_iff_ne.mpr c5
            obtain rfl := Option.some.inj H
            have p101 : 0 ≤ (x5_1 : Int) := of_decide_eq_true (by first | (with_reducible assumption) | assumption)
            have q101 : x5_1 < (l0.length : Int) := of_decide_eq_true (by first | (with_reducible assumption) | assumption)
            obtain ⟨ad101, e101, hx101_0⟩ := Kd.at_int HR0.out x5_1 p101 q101
            cases e101
            replace p101 := eq_true p101
            replace q101 := eq_true q101
            go_wp2
            go_ret
            exact ⟨by first | rfl | (simp; done) | (simp [*]; done), by repeat (first | exact Drawn0.refl _ | apply Drawn0.step)⟩
        · rw [if_neg c4] at H
          exact absurd H (by simp)
      · rw [if_neg c3] at H
        have c3b0 : decide (x5_1 < (l0.length : Int)) = false := decide_eq_false c3
        clear c3
        obtain rfl := Option.some.inj H
        go_wp2
        go_ret
        exact ⟨by first | rfl | (simp; done) | (simp [*]; done), by repeat (first | exact Drawn0.refl _ | apply Drawn0.step)⟩

end Go.Proofs.Yteafahnopgmgoaa.Q
/- Own lemmas: the laws' own helpers on lists of numbers (equal, marked, held). -/
namespace Go.Proofs.Yteafahnopgmgoaa.Q
open Go.RowKit Go.Proofs.YteafahnopgmgoaaW.PrintWords Go.Proofs.YteafahnopgmgoaaW.PrintLast Go.Proofs.YteafahnopgmgoaaW.PrintMore
def ups (m : Int) (n : Nat) : List Int := (List.range n).map fun (i : Nat) => m + (i : Int)
theorem ups_length (m : Int) (n : Nat) : (ups m n).length = n := by simp [ups]
theorem ups_cons (m : Int) (n : Nat) : ups m (n + 1) = m :: ups (m + 1) n := by
  simp only [ups, List.range_succ_eq_map, List.map_cons, List.map_map]
  congr 1
  · simp
  · apply List.map_congr_left
    intro i _
    simp only [Function.comp]
    omega
theorem eqInt64S_ev (l : List Int) (hl : l.length < 4611686018427387904) : ∀ k, l.length < k → laws_eqInt64S.f k l l = some true := by
  have go : ∀ (d k : Nat) (i : Int), 0 ≤ i → i + d = l.length → d < k → laws_eqInt64S.l0 k l l i = some true := by
    intro d
    induction d with
    | zero =>
      intro k i h0 h1 hk
      obtain ⟨k, rfl⟩ : ∃ m, k = m + 1 := ⟨k - 1, by omega⟩
      simp only [laws_eqInt64S.l0]
      rw [if_neg (by omega)]
    | succ d ih =>
      intro k i h0 h1 hk
      obtain ⟨k, rfl⟩ : ∃ m, k = m + 1 := ⟨k - 1, by omega⟩
      simp only [laws_eqInt64S.l0]
      rw [if_pos (by omega), if_pos h0, if_pos (by omega)]
      simp only [if_true]
      rw [w64 (by omega) (by omega)]
      exact ih k (i + 1) (by omega) (by omega) (by omega)
  intro k hk
  unfold laws_eqInt64S.f
  rw [if_pos rfl]
  exact go l.length k 0 (by omega) (by omega) hk
theorem set_drop_take (xs : List Int) (i : Nat) (m : Int) (h : i < xs.length) : (xs.set i m).take (i + 1) = xs.take i ++ [m] := by
  rw [List.take_succ_eq_append_getElem (by simpa using h)]
  congr 1
  · rw [List.take_set_of_le (Nat.le_refl _)]
  · simp
theorem markInt64S_ev (l : List Int) (m : Int) (h0 : 0 ≤ m) (hl : m + l.length < 4611686018427387904) : ∀ k, l.length < k → laws_markInt64S.f k l m = some (m + l.length, ups m l.length) := by
  have go : ∀ (d k : Nat) (xs : List Int) (q : Int) (i : Nat), i + d = xs.length → d < k → 0 ≤ q → q + d < 4611686018427387904 → (xs.length : Int) < 4611686018427387904 → laws_markInt64S.l0 k xs q i = some (q + d, xs.take i ++ ups q d) := by
    intro d
    induction d with
    | zero =>
      intro k xs q i h1 hk _ _ _
      obtain ⟨k, rfl⟩ : ∃ m, k = m + 1 := ⟨k - 1, by omega⟩
      simp only [laws_markInt64S.l0]
      rw [if_neg (by omega), List.take_of_length_le (by omega)]
      simp [ups]
    | succ d ih =>
      intro k xs q i h1 hk h2 h3 h4
      obtain ⟨k, rfl⟩ : ∃ m, k = m + 1 := ⟨k - 1, by omega⟩
      simp only [laws_markInt64S.l0]
      rw [if_pos (by omega), if_pos (by omega), w64 (by omega) (by omega), w64 (by omega) (by omega)]
      have := ih k (xs.set i q) (q + 1) (i + 1) (by rw [List.length_set]; omega) (by omega) (by omega) (by omega) (by rw [List.length_set]; omega)
      rw [Int.toNat_natCast, show ((i : Int) + 1) = ((i + 1 : Nat) : Int) by omega, this, set_drop_take _ _ _ (by omega), ups_cons]
      simp only [List.append_assoc, List.singleton_append, Option.some.injEq, Prod.mk.injEq, and_true]
      omega
  intro k hk
  unfold laws_markInt64S.f
  have := go l.length k l m 0 (by omega) hk h0 hl (by omega)
  simpa using this
theorem heldInt64S_ev (m : Int) (n : Nat) (h0 : 0 ≤ m) (hl : m + n < 4611686018427387904) : ∀ k, n < k → laws_heldInt64S.f k (ups m n) m = some (m + n) := by
  have go : ∀ (d k : Nat) (q : Int) (i : Nat), i + d = n → q = m + i → d < k → laws_heldInt64S.l0 k (ups m n) q i = some (q + d) := by
    intro d
    induction d with
    | zero =>
      intro k q i h1 h2 hk
      obtain ⟨k, rfl⟩ : ∃ m, k = m + 1 := ⟨k - 1, by omega⟩
      simp only [laws_heldInt64S.l0]
      rw [if_neg (by rw [ups_length]; omega)]
      simp
    | succ d ih =>
      intro k q i h1 h2 hk
      obtain ⟨k, rfl⟩ : ∃ m, k = m + 1 := ⟨k - 1, by omega⟩
      simp only [laws_heldInt64S.l0]
      have hrd : rd (ups m n) (i : Int) = q := by
        unfold rd ups
        rw [List.getD_eq_getElem?_getD, List.getElem?_map, List.getElem?_range (by omega)]
        simp [h2]
      rw [if_pos (by rw [ups_length]; omega), if_pos (by omega), hrd, if_pos rfl, w64 (by omega) (by omega), w64 (by omega) (by omega)]
      have := ih k (q + 1) (i + 1) (by omega) (by omega) (by omega)
      rw [show ((i : Int) + 1) = ((i + 1 : Nat) : Int) by omega, this]
      simp only [Option.some.injEq]
      omega
  intro k hk
  unfold laws_heldInt64S.f
  have := go n k m 0 (by omega) (by omega) hk
  simpa using this
end Go.Proofs.Yteafahnopgmgoaa.Q
/- Own lemmas: names, as the reference and as the program test them. -/
namespace Go.Proofs.Yteafahnopgmgoaa.Q
open Go.RowKit Go.Proofs.YteafahnopgmgoaaW.PrintWords Go.Proofs.YteafahnopgmgoaaW.PrintLast Go.Proofs.YteafahnopgmgoaaW.PrintMore
theorem toList_len (x : ByteArray) : x.toList.length = x.size := by
  rw [Go.ByteArray.toList_eq x, Array.length_toList]; rfl
theorem name_round (k : Nat) (x : ByteArray) (i : Int) : spec_l01Name.l0 k x i = impl_IsName.l0 k x i := by
  induction k generalizing i with
  | zero => rfl
  | succ k ih =>
    simp only [spec_l01Name.l0, impl_IsName.l0, ih, spec_l01Small.f, spec_l01Digit.f]
    by_cases h1 : i < (x.size : Int)
    · rw [if_pos h1, if_pos h1]
      by_cases h2 : 0 ≤ i
      · rw [if_pos h2, if_pos h2]
        generalize bt x i = c
        by_cases h3 : c < 97
        · rw [if_pos h3, if_neg (by omega)]
          by_cases h4 : c < 48
          · rw [if_pos h4, if_neg (by omega)]; simp
          · rw [if_neg h4, if_pos (by omega)]
            by_cases h5 : c > 57
            · rw [if_pos h5]; simp [show ¬ c ≤ 57 by omega]
            · rw [if_neg h5]; simp [show c ≤ 57 by omega]
        · rw [if_neg h3, if_pos (show c ≥ 97 by omega)]
          by_cases h4 : c > 122
          · simp [h4, show ¬ c < 48 by omega, show c > 57 by omega, show ¬ c ≤ 122 by omega, show ¬ c ≤ 57 by omega]
          · rw [if_neg h4]; simp [show c ≤ 122 by omega]
      · rw [if_neg h2, if_neg h2]
    · rw [if_neg h1, if_neg h1]
theorem name_same (k : Nat) (x : ByteArray) : spec_l01Name.f k x = impl_IsName.f k x := by
  have hj : ∀ b, spec_l01Name.j0 k x b = impl_IsName.j0 k x b := by
    intro b
    cases k with
    | zero => rfl
    | succ k => simp only [spec_l01Name.j0, impl_IsName.j0, name_round]
  unfold spec_l01Name.f impl_IsName.f spec_l01Small.f
  simp only [hj]
  by_cases h0 : x.toList = []
  · have : x.size = 0 := by rw [← toList_len, h0]; rfl
    rw [if_pos h0, if_pos (by omega)]
  · have : x.size ≠ 0 := by
      intro e; apply h0; apply List.eq_nil_of_length_eq_zero; rw [toList_len, e]
    rw [if_neg h0, if_neg (show ¬ (x.size : Int) < 1 by omega)]
    by_cases h1 : (x.size : Int) > 10
    · rw [if_pos h1, if_pos h1]
    · rw [if_neg h1, if_neg h1, if_pos (show 0 < (x.size : Int) by omega), if_pos (show 0 < (x.size : Int) by omega)]
      generalize bt x 0 = c
      by_cases h3 : c < 97
      · rw [if_pos h3, if_neg (show ¬ c ≥ 97 by omega)]; rfl
      · rw [if_neg h3, if_pos (show c ≥ 97 by omega)]
        simp only [Option.bind_some]
        congr 1
        by_cases h4 : c > 122
        · simp [h4, show ¬ c ≤ 122 by omega]
        · simp [h4, show c ≤ 122 by omega]
theorem name_ev (x : ByteArray) : ∃ b, ∀ k, 12 < k → impl_IsName.f k x = some b := by
  have go : ∀ (d : Nat) (i : Int), 0 ≤ i → i + d = x.size → (x.size : Int) ≤ 10 → ∃ b, ∀ k, d < k → impl_IsName.l0 k x i = some b := by
    intro d
    induction d with
    | zero =>
      intro i h0 h1 _
      refine ⟨true, fun k hk => ?_⟩
      obtain ⟨k, rfl⟩ : ∃ m, k = m + 1 := ⟨k - 1, by omega⟩
      simp only [impl_IsName.l0]
      rw [if_neg (by omega)]
    | succ d ih =>
      intro i h0 h1 h2
      obtain ⟨b, hb⟩ := ih (i + 1) (by omega) (by omega) h2
      by_cases h3 : bt x i < 97
      · by_cases h4 : bt x i < 48
        · refine ⟨false, fun k hk => ?_⟩
          obtain ⟨k, rfl⟩ : ∃ m, k = m + 1 := ⟨k - 1, by omega⟩
          simp only [impl_IsName.l0]
          rw [if_pos (by omega), if_pos h0, if_pos h3, if_pos h4]
        · by_cases h5 : bt x i > 57
          · refine ⟨false, fun k hk => ?_⟩
            obtain ⟨k, rfl⟩ : ∃ m, k = m + 1 := ⟨k - 1, by omega⟩
            simp only [impl_IsName.l0]
            rw [if_pos (by omega), if_pos h0, if_pos h3, if_neg h4, if_pos h5]
          · refine ⟨b, fun k hk => ?_⟩
            obtain ⟨k, rfl⟩ : ∃ m, k = m + 1 := ⟨k - 1, by omega⟩
            simp only [impl_IsName.l0]
            rw [if_pos (by omega), if_pos h0, if_pos h3, if_neg h4, if_neg h5, w64 (by omega) (by omega), hb k (by omega)]
      · by_cases h4 : bt x i > 122
        · refine ⟨false, fun k hk => ?_⟩
          obtain ⟨k, rfl⟩ : ∃ m, k = m + 1 := ⟨k - 1, by omega⟩
          simp only [impl_IsName.l0]
          rw [if_pos (by omega), if_pos h0, if_neg h3, if_pos h4, if_neg (by omega), if_pos (by omega)]
        · refine ⟨b, fun k hk => ?_⟩
          obtain ⟨k, rfl⟩ : ∃ m, k = m + 1 := ⟨k - 1, by omega⟩
          simp only [impl_IsName.l0]
          rw [if_pos (by omega), if_pos h0, if_neg h3, if_neg h4, w64 (by omega) (by omega), hb k (by omega)]
  have hj : ∀ (b : Bool), (b = false → (x.size : Int) ≤ 10) → ∃ c, ∀ k, 12 < k → impl_IsName.j0 k x b = some c := by
    intro b hs
    cases b with
    | true =>
      refine ⟨false, fun k hk => ?_⟩
      obtain ⟨k, rfl⟩ : ∃ m, k = m + 1 := ⟨k - 1, by omega⟩
      simp only [impl_IsName.j0, if_true]
    | false =>
      obtain ⟨c, hc⟩ := go x.size 0 (by omega) (by omega) (hs rfl)
      have := hs rfl
      refine ⟨c, fun k hk => ?_⟩
      obtain ⟨k, rfl⟩ : ∃ m, k = m + 1 := ⟨k - 1, by omega⟩
      simp only [impl_IsName.j0]
      rw [if_neg (by decide), hc k (by omega)]
  unfold impl_IsName.f
  by_cases h1 : (x.size : Int) < 1
  · simp only [if_pos h1]; exact hj true (by intro h; cases h)
  · simp only [if_neg h1]
    by_cases h2 : (x.size : Int) > 10
    · simp only [if_pos h2]; exact hj true (by intro h; cases h)
    · simp only [if_neg h2, if_pos (show 0 < (x.size : Int) by omega)]
      by_cases h3 : bt x 0 < 97
      · simp only [if_pos h3]; exact hj true (by intro h; cases h)
      · simp only [if_neg h3]; exact hj _ (fun _ => by omega)
end Go.Proofs.Yteafahnopgmgoaa.Q
namespace Go.Proofs.Yteafahnopgmgoaa.Q
open Go.RowKit Go.Proofs.YteafahnopgmgoaaW.PrintWords Go.Proofs.YteafahnopgmgoaaW.PrintLast Go.Proofs.YteafahnopgmgoaaW.PrintMore
attribute [local go_sem] max2_int min2_int max_two min_two max_three min_three max_four min_four   -- for this text's walks alone
set_option linter.unusedVariables false
set_option linter.unusedSimpArgs false

/-! ### spec_FeatureDistance: function 13 -/
def spec_FeatureDistance.f (k : Nat) (a0_0 : ByteArray) (l0_1 : List Int) (a1_0 : ByteArray) (l1_1 : List Int) : Option (Int × Int) := (spec_l26One.f k [(⟨a0_0, l0_1⟩ : S28)]).bind fun t103 => (if t103 = true then ((spec_l26One.f k [(⟨a1_0, l1_1⟩ : S28)]).bind fun t104 => (if t104 = true then ((spec_l26Away.f k [(⟨a0_0, l0_1⟩ : S28)] [(⟨a1_0, l1_1⟩ : S28)]).bind fun t105 => (some (t105, 0))) else (some (0, 1)))) else (some (0, 1)))
theorem spec_FeatureDistance.mono : ∀ a0 a1 a2 a3 k, LeO (spec_FeatureDistance.f k a0 a1 a2 a3) (spec_FeatureDistance.f (k + 1) a0 a1 a2 a3) := by
  intro a0 a1 a2 a3 k
  unfold spec_FeatureDistance.f
  repeat' first
      | (with_reducible exact spec_l26Away.mono _ _ _)
      | (with_reducible exact spec_l26One.mono _ _)
      | (with_reducible exact LeO.refl _)
      | (with_reducible exact LeO.none _)
      | (with_reducible refine LeO.ite ?_ ?_)
      | (with_reducible refine LeO.bind ?_ (fun _ => ?_))
      | exact spec_l26Away.mono _ _ _
      | exact spec_l26One.mono _ _
      | exact LeO.none _
      | refine LeO.ite ?_ ?_
      | refine LeO.bind ?_ (fun _ => ?_)
set_option maxHeartbeats 8000000 in
set_option maxRecDepth 100000 in
theorem spec_FeatureDistance.calls (k : Nat) (a0_0 : ByteArray) (A0_1 : Option Addr) (c0_1 : Nat) (l0_1 : List Int) (a1_0 : ByteArray) (A1_1 : Option Addr) (c1_1 : Nat) (l1_1 : List Int) (r1 : Int) (r2 : Int) (w : World) (hr0_1 : Kd.C (Kd.int .i64) w A0_1 l0_1.length l0_1) (hc0_1 : l0_1.length ≤ c0_1) (hr1_1 : Kd.C (Kd.int .i64) w A1_1 l1_1.length l1_1) (hc1_1 : l1_1.length ≤ c1_1) (h : spec_FeatureDistance.f k a0_0 l0_1 a1_0 l1_1 = some (r1, r2)) :
    Calls Try.prog 13 #[.agg #[.string a0_0, .slice A0_1 l0_1.length c0_1], .agg #[.string a1_0, .slice A1_1 l1_1.length c1_1]] w fun e w' => e = .returned (.tuple #[.int .i64 r1, .int .i64 r2]) ∧ Below w.heap.size w w' := by
  have hu28 := Try.underlying28
  have HR0_1 := Aside0.mk hr0_1
  have HC0_1 := Aside0.mk hc0_1
  clear hr0_1 hc0_1
  have HR1_1 := Aside0.mk hr1_1
  have HC1_1 := Aside0.mk hc1_1
  clear hr1_1 hc1_1
  have HB := Aside0.mk (Below.refl w.heap.size w)
  have H : ((spec_l26One.f k [(⟨a0_0, l0_1⟩ : S28)]).bind fun t103 => (if t103 = true then ((spec_l26One.f k [(⟨a1_0, l1_1⟩ : S28)]).bind fun t104 => (if t104 = true then ((spec_l26Away.f k [(⟨a0_0, l0_1⟩ : S28)] [(⟨a1_0, l1_1⟩ : S28)]).bind fun t105 => (some (t105, 0))) else (some (0, 1)))) else (some (0, 1)))) = some (r1, r2) := h
  clear h
  replace H := Option.bind_eq_some_iff.mp H
  obtain ⟨t103, A30, H⟩ := H
  replace H : (if t103 = true then ((spec_l26One.f k [(⟨a1_0, l1_1⟩ : S28)]).bind fun t104 => (if t104 = true then ((spec_l26Away.f k [(⟨a0_0, l0_1⟩ : S28)] [(⟨a1_0, l1_1⟩ : S28)]).bind fun t105 => (some (t105, 0))) else (some (0, 1)))) else (some (0, 1))) = some (r1, r2) := H
  have A3 := Aside0.mk A30
  clear A30
  by_cases c4 : t103 = true
  · subst c4
    have H1 : ((spec_l26One.f k [(⟨a1_0, l1_1⟩ : S28)]).bind fun t104 => (if t104 = true then ((spec_l26Away.f k [(⟨a0_0, l0_1⟩ : S28)] [(⟨a1_0, l1_1⟩ : S28)]).bind fun t105 => (some (t105, 0))) else (some (0, 1)))) = some (r1, r2) := by rw [if_pos rfl] at H; exact H
    clear H
    have H := H1
    clear H1
    replace H := Option.bind_eq_some_iff.mp H
    obtain ⟨t104, A50, H⟩ := H
    replace H : (if t104 = true then ((spec_l26Away.f k [(⟨a0_0, l0_1⟩ : S28)] [(⟨a1_0, l1_1⟩ : S28)]).bind fun t105 => (some (t105, 0))) else (some (0, 1))) = some (r1, r2) := H
    have A5 := Aside0.mk A50
    clear A50
    have HC6 := Aside0.mk H
    clear H
    go_enter Try.func13, Try.ntmps13
    go_upto_if 11 with (first | ((with_reducible refine gate_dst (N := 2) rfl ?_); refine box_event ?hg (N := 2) ?hd (cs := #[.string a0_0, .slice A0_1 l0_1.length c0_1]) (t := 28) ?hr ?_; (case hd => rfl); (case hg => rfl); (case hr => first | (go_simp; done) | (go_simp; rfl)); intro gb101 hg w7 hbox hb; have n0_ := Aside0.mk (below_step (by repeat (first | (with_reducible first | exact HB.out | apply below_alloc | apply pw_below_drewN | apply below_drew1) | exact HB.out)) hb); have n1_ := Aside0.mk (hbox); have n2_ := Aside0.mk ((by rw [hg]; exact (below_size (by repeat (first | (with_reducible first | exact HB.out | apply below_alloc | apply pw_below_drewN | apply below_drew1) | exact HB.out))) : w.heap.size ≤ gb101)); have n3_ := Aside0.mk ((by rw [hg]; exact (below_size (by repeat (first | (with_reducible first | exact HB.out | apply below_alloc | apply pw_below_drewN | apply below_drew1) | exact HB.out))) : w.heap.size ≤ gb101)); clear HB; have HB := n0_; have BK101 := n1_; have GW101 := n2_; have GE101 := n3_; clear n0_ n1_ n2_ n3_; clear hb hbox hg) | ((with_reducible refine gate_dst (N := 3) rfl ?_); refine box_event ?hg (N := 3) ?hd (cs := #[.string a1_0, .slice A1_1 l1_1.length c1_1]) (t := 28) ?hr ?_; (case hd => rfl); (case hg => rfl); (case hr => first | (go_simp; done) | (go_simp; rfl)); intro gb102 hg w8 hbox hb; have n0_ := Aside0.mk (blk_below (g := gb101) (o := .cells #[.string a0_0, .slice A0_1 l0_1.length c0_1] 28 (0, 0)) (by (with_reducible repeat (first | refine blk_drewN ?_ _ | refine blk_drew ?_ | refine blk_alloc ?_ _)); exact BK101.out) hb); have n1_ := Aside0.mk (below_step (by repeat (first | (with_reducible first | exact HB.out | apply below_alloc | apply pw_below_drewN | apply below_drew1 | refine below_set ?_ GE101.out) | exact HB.out)) hb); have n2_ := Aside0.mk (hbox); have n3_ := Aside0.mk ((by rw [hg]; exact (below_size (by repeat (first | (with_reducible first | exact HB.out | apply below_alloc | apply pw_below_drewN | apply below_drew1 | refine below_set ?_ GE101.out) | exact HB.out))) : w.heap.size ≤ gb102)); have n4_ := Aside0.mk ((by rw [hg]; exact (below_size (by repeat (first | (with_reducible first | exact HB.out | apply below_alloc | apply pw_below_drewN | apply below_drew1 | refine below_set ?_ GE101.out) | exact HB.out))) : w.heap.size ≤ gb102)); have n5_ := Aside0.mk ((by rw [hg]; exact Nat.ne_of_lt (blk_lt (g := gb101) (o := .cells #[.string a0_0, .slice A0_1 l0_1.length c0_1] 28 (0, 0)) (by (with_reducible repeat (first | refine blk_drewN ?_ _ | refine blk_drew ?_ | refine blk_alloc ?_ _)); exact BK101.out)) : gb101 ≠ gb102)); have n6_ := Aside0.mk ((by rw [hg]; exact Nat.ne_of_gt (blk_lt (g := gb101) (o := .cells #[.string a0_0, .slice A0_1 l0_1.length c0_1] 28 (0, 0)) (by (with_reducible repeat (first | refine blk_drewN ?_ _ | refine blk_drew ?_ | refine blk_alloc ?_ _)); exact BK101.out)) : gb102 ≠ gb101)); clear BK101; clear HB; have BK101 := n0_; have HB := n1_; have BK102 := n2_; have GW102 := n3_; have GE102 := n4_; have NB101_102 := n5_; have NB102_101 := n6_; clear n0_ n1_ n2_ n3_ n4_ n5_ n6_; clear hb hbox hg) | ((with_reducible refine gate_callee (f := 50) rfl ?_); refine goesL_ (some 6) rfl rfl Try.func50 (by kernel_rfl) rfl #[.pointer (some (Addr.add ⟨gb101, 0, none⟩ 0))] rfl (by (try simp only [List.map_toArray, List.map_cons, List.map_nil]); first | done | rfl | (simp only [List.length_drop, List.length_take]; rfl)) ?_; (with_reducible refine (spec_l26One.calls k _ [(⟨a0_0, l0_1⟩ : S28)] true _ ?side1 A3.out).mono ?_); (case side1 => exact (RPW.C_blk (cs := [.string a0_0, .slice A0_1 l0_1.length c0_1]) (t := 28) (g := gb101) (by (with_reducible repeat (first | refine blk_drewN ?_ _ | refine blk_drew ?_ | refine blk_alloc ?_ _)); exact BK101.out) (k28_mk _ (⟨a0_0, l0_1⟩ : S28) (by exact HC0_1.out) (by repeat (first | exact (Kd.C_below HR0_1.out HB.out) | (with_reducible refine Kd.C_alloc ?_ _) | (with_reducible refine Kd.C_drewN ?_ _) | (with_reducible refine Kd.C_drew ?_)))))); rintro e w' ⟨rfl, ⟨nd, rfl⟩⟩; refine ⟨_, rfl, ?_⟩; (try (rw [drewN_self w8]; generalize hq_ : World.drewN w8 _ = w8; have n0_ : Aside0 (w8.heap[gb101]? = some (.cells #[.string a0_0, .slice A0_1 l0_1.length c0_1] 28 (0, 0))) := ⟨by rw [← hq_]; exact (by (with_reducible repeat (first | refine blk_drewN ?_ _ | refine blk_drew ?_ | refine blk_alloc ?_ _)); exact BK101.out)⟩; have n1_ : Aside0 (w8.heap[gb102]? = some (.cells #[.string a1_0, .slice A1_1 l1_1.length c1_1] 28 (0, 0))) := ⟨by rw [← hq_]; exact (by (with_reducible repeat (first | refine blk_drewN ?_ _ | refine blk_drew ?_ | refine blk_alloc ?_ _)); exact BK102.out)⟩; have n2_ : Aside0 (Below w.heap.size w w8) := ⟨by rw [← hq_]; exact (by repeat (first | (with_reducible first | exact HB.out | apply below_alloc | apply pw_below_drewN | apply below_drew1 | refine below_set ?_ GE101.out | refine below_set ?_ GE102.out) | exact HB.out))⟩; clear BK101 BK102 HB hq_; have BK101 := n0_; have BK102 := n1_; have HB := n2_; clear n0_ n1_ n2_))) | (go_at_call 50; (with_reducible refine (spec_l26One.calls k _ [(⟨a1_0, l1_1⟩ : S28)] t104 _ ?side1 A5.out).mono ?_); (case side1 => exact (RPW.C_blk (cs := [.string a1_0, .slice A1_1 l1_1.length c1_1]) (t := 28) (g := gb102) (by (with_reducible repeat (first | refine blk_drewN ?_ _ | refine blk_drew ?_ | refine blk_alloc ?_ _)); exact BK102.out) (k28_mk _ (⟨a1_0, l1_1⟩ : S28) (by exact HC1_1.out) (by repeat (first | exact (Kd.C_below HR1_1.out HB.out) | (with_reducible refine Kd.C_alloc ?_ _) | (with_reducible refine Kd.C_drewN ?_ _) | (with_reducible refine Kd.C_drew ?_)))))); rintro e w' ⟨rfl, ⟨nd, rfl⟩⟩; (try (rw [drewN_self w8]; generalize hq_ : World.drewN w8 _ = w8; have n0_ : Aside0 (w8.heap[gb101]? = some (.cells #[.string a0_0, .slice A0_1 l0_1.length c0_1] 28 (0, 0))) := ⟨by rw [← hq_]; exact (by (with_reducible repeat (first | refine blk_drewN ?_ _ | refine blk_drew ?_ | refine blk_alloc ?_ _)); exact BK101.out)⟩; have n1_ : Aside0 (w8.heap[gb102]? = some (.cells #[.string a1_0, .slice A1_1 l1_1.length c1_1] 28 (0, 0))) := ⟨by rw [← hq_]; exact (by (with_reducible repeat (first | refine blk_drewN ?_ _ | refine blk_drew ?_ | refine blk_alloc ?_ _)); exact BK102.out)⟩; have n2_ : Aside0 (Below w.heap.size w w8) := ⟨by rw [← hq_]; exact (by repeat (first | (with_reducible first | exact HB.out | apply below_alloc | apply pw_below_drewN | apply below_drew1 | refine below_set ?_ GE101.out | refine below_set ?_ GE102.out) | exact HB.out))⟩; clear BK101 BK102 HB hq_; have BK101 := n0_; have BK102 := n1_; have HB := n2_; clear n0_ n1_ n2_))))
    (try simp only [Act.put, List.setIfInBounds_toArray, List.set_cons_zero, List.set_cons_succ])
    have H := HC6.out
    clear HC6
    by_cases c9 : t104 = true
    · subst c9
      have H1 : ((spec_l26Away.f k [(⟨a0_0, l0_1⟩ : S28)] [(⟨a1_0, l1_1⟩ : S28)]).bind fun t105 => (some (t105, 0))) = some (r1, r2) := by rw [if_pos rfl] at H; exact H
      clear H
      have H := H1
      clear H1
      replace H := Option.bind_eq_some_iff.mp H
      obtain ⟨t105, A100, H⟩ := H
      replace H : (some (t105, 0)) = some (r1, r2) := H
      have A10 := Aside0.mk A100
      clear A100
      simp only [Option.some.injEq, Prod.mk.injEq] at H
      obtain ⟨rfl, rfl⟩ := H
      go_wp2_with (first | ((with_reducible refine gate_callee (f := 51) rfl ?_); refine goesL_ (some 12) rfl rfl Try.func51 (by kernel_rfl) rfl #[.pointer (some (Addr.add ⟨gb101, 0, none⟩ 0)), .pointer (some (Addr.add ⟨gb102, 0, none⟩ 0))] rfl (by (try simp only [List.map_toArray, List.map_cons, List.map_nil]); first | done | rfl | (simp only [List.length_drop, List.length_take]; rfl)) ?_; (with_reducible refine (spec_l26Away.calls k _ [(⟨a0_0, l0_1⟩ : S28)] _ [(⟨a1_0, l1_1⟩ : S28)] t105 _ ?side1 ?side2 A10.out).mono ?_); (case side1 => exact (RPW.C_blk (cs := [.string a0_0, .slice A0_1 l0_1.length c0_1]) (t := 28) (g := gb101) (by (with_reducible repeat (first | refine blk_drewN ?_ _ | refine blk_drew ?_ | refine blk_alloc ?_ _)); exact BK101.out) (k28_mk _ (⟨a0_0, l0_1⟩ : S28) (by exact HC0_1.out) (by repeat (first | exact (Kd.C_below HR0_1.out (by repeat (first | (with_reducible first | exact HB.out | apply below_alloc | apply pw_below_drewN | apply below_drew1 | refine below_set ?_ GE101.out | refine below_set ?_ GE102.out) | exact HB.out))) | (with_reducible refine Kd.C_alloc ?_ _) | (with_reducible refine Kd.C_drewN ?_ _) | (with_reducible refine Kd.C_drew ?_)))))); (case side2 => exact (RPW.C_blk (cs := [.string a1_0, .slice A1_1 l1_1.length c1_1]) (t := 28) (g := gb102) (by (with_reducible repeat (first | refine blk_drewN ?_ _ | refine blk_drew ?_ | refine blk_alloc ?_ _)); exact BK102.out) (k28_mk _ (⟨a1_0, l1_1⟩ : S28) (by exact HC1_1.out) (by repeat (first | exact (Kd.C_below HR1_1.out (by repeat (first | (with_reducible first | exact HB.out | apply below_alloc | apply pw_below_drewN | apply below_drew1 | refine below_set ?_ GE101.out | refine below_set ?_ GE102.out) | exact HB.out))) | (with_reducible refine Kd.C_alloc ?_ _) | (with_reducible refine Kd.C_drewN ?_ _) | (with_reducible refine Kd.C_drew ?_)))))); rintro e w' ⟨rfl, ⟨nd, rfl⟩⟩; refine ⟨_, rfl, ?_⟩; (try (rw [drewN_self w8]; generalize hq_ : World.drewN w8 _ = w8; have n0_ : Aside0 (w8.heap[gb101]? = some (.cells #[.string a0_0, .slice A0_1 l0_1.length c0_1] 28 (0, 0))) := ⟨by rw [← hq_]; exact (by (with_reducible repeat (first | refine blk_drewN ?_ _ | refine blk_drew ?_ | refine blk_alloc ?_ _)); exact BK101.out)⟩; have n1_ : Aside0 (w8.heap[gb102]? = some (.cells #[.string a1_0, .slice A1_1 l1_1.length c1_1] 28 (0, 0))) := ⟨by rw [← hq_]; exact (by (with_reducible repeat (first | refine blk_drewN ?_ _ | refine blk_drew ?_ | refine blk_alloc ?_ _)); exact BK102.out)⟩; have n2_ : Aside0 (Below w.heap.size w w8) := ⟨by rw [← hq_]; exact (by repeat (first | (with_reducible first | exact HB.out | apply below_alloc | apply pw_below_drewN | apply below_drew1 | refine below_set ?_ GE101.out | refine below_set ?_ GE102.out) | exact HB.out))⟩; clear BK101 BK102 HB hq_; have BK101 := n0_; have BK102 := n1_; have HB := n2_; clear n0_ n1_ n2_))))
      go_ret2
      exact ⟨by first | rfl | (simp [errW_none, errW_some] <;> rfl) | (simp [*, errW_none, errW_some] <;> rfl), by repeat (first | (with_reducible first | exact HB.out | apply below_alloc | apply pw_below_drewN | apply below_drew1 | refine below_set ?_ GE101.out | refine below_set ?_ GE102.out) | exact HB.out)⟩
    · replace c9 := Bool.eq_false_iff.mpr c9
      subst c9
      have H1 : (some (0, 1)) = some (r1, r2) := by rw [if_neg (show ¬ (false = true) by decide)] at H; exact H
      clear H
      have H := H1
      clear H1
      simp only [Option.some.injEq, Prod.mk.injEq] at H
      obtain ⟨rfl, rfl⟩ := H
      go_wp2
      go_ret2
      exact ⟨by first | rfl | (simp [errW_none, errW_some] <;> rfl) | (simp [*, errW_none, errW_some] <;> rfl), by repeat (first | (with_reducible first | exact HB.out | apply below_alloc | apply pw_below_drewN | apply below_drew1 | refine below_set ?_ GE101.out | refine below_set ?_ GE102.out) | exact HB.out)⟩
  · replace c4 := Bool.eq_false_iff.mpr c4
    subst c4
    have H1 : (some (0, 1)) = some (r1, r2) := by rw [if_neg (show ¬ (false = true) by decide)] at H; exact H
    clear H
    have H := H1
    clear H1
    simp only [Option.some.injEq, Prod.mk.injEq] at H
    obtain ⟨rfl, rfl⟩ := H
    go_enter Try.func13, Try.ntmps13
    go_wp2_with (first | ((with_reducible refine gate_dst (N := 2) rfl ?_); refine box_event ?hg (N := 2) ?hd (cs := #[.string a0_0, .slice A0_1 l0_1.length c0_1]) (t := 28) ?hr ?_; (case hd => rfl); (case hg => rfl); (case hr => first | (go_simp; done) | (go_simp; rfl)); intro gb101 hg w11 hbox hb; have n0_ := Aside0.mk (below_step (by repeat (first | (with_reducible first | exact HB.out | apply below_alloc | apply pw_below_drewN | apply below_drew1) | exact HB.out)) hb); have n1_ := Aside0.mk (hbox); have n2_ := Aside0.mk ((by rw [hg]; exact (below_size (by repeat (first | (with_reducible first | exact HB.out | apply below_alloc | apply pw_below_drewN | apply below_drew1) | exact HB.out))) : w.heap.size ≤ gb101)); have n3_ := Aside0.mk ((by rw [hg]; exact (below_size (by repeat (first | (with_reducible first | exact HB.out | apply below_alloc | apply pw_below_drewN | apply below_drew1) | exact HB.out))) : w.heap.size ≤ gb101)); clear HB; have HB := n0_; have BK101 := n1_; have GW101 := n2_; have GE101 := n3_; clear n0_ n1_ n2_ n3_; clear hb hbox hg) | ((with_reducible refine gate_dst (N := 3) rfl ?_); refine box_event ?hg (N := 3) ?hd (cs := #[.string a1_0, .slice A1_1 l1_1.length c1_1]) (t := 28) ?hr ?_; (case hd => rfl); (case hg => rfl); (case hr => first | (go_simp; done) | (go_simp; rfl)); intro gb102 hg w12 hbox hb; have n0_ := Aside0.mk (blk_below (g := gb101) (o := .cells #[.string a0_0, .slice A0_1 l0_1.length c0_1] 28 (0, 0)) (by (with_reducible repeat (first | refine blk_drewN ?_ _ | refine blk_drew ?_ | refine blk_alloc ?_ _)); exact BK101.out) hb); have n1_ := Aside0.mk (below_step (by repeat (first | (with_reducible first | exact HB.out | apply below_alloc | apply pw_below_drewN | apply below_drew1 | refine below_set ?_ GE101.out) | exact HB.out)) hb); have n2_ := Aside0.mk (hbox); have n3_ := Aside0.mk ((by rw [hg]; exact (below_size (by repeat (first | (with_reducible first | exact HB.out | apply below_alloc | apply pw_below_drewN | apply below_drew1 | refine below_set ?_ GE101.out) | exact HB.out))) : w.heap.size ≤ gb102)); have n4_ := Aside0.mk ((by rw [hg]; exact (below_size (by repeat (first | (with_reducible first | exact HB.out | apply below_alloc | apply pw_below_drewN | apply below_drew1 | refine below_set ?_ GE101.out) | exact HB.out))) : w.heap.size ≤ gb102)); have n5_ := Aside0.mk ((by rw [hg]; exact Nat.ne_of_lt (blk_lt (g := gb101) (o := .cells #[.string a0_0, .slice A0_1 l0_1.length c0_1] 28 (0, 0)) (by (with_reducible repeat (first | refine blk_drewN ?_ _ | refine blk_drew ?_ | refine blk_alloc ?_ _)); exact BK101.out)) : gb101 ≠ gb102)); have n6_ := Aside0.mk ((by rw [hg]; exact Nat.ne_of_gt (blk_lt (g := gb101) (o := .cells #[.string a0_0, .slice A0_1 l0_1.length c0_1] 28 (0, 0)) (by (with_reducible repeat (first | refine blk_drewN ?_ _ | refine blk_drew ?_ | refine blk_alloc ?_ _)); exact BK101.out)) : gb102 ≠ gb101)); clear BK101; clear HB; have BK101 := n0_; have HB := n1_; have BK102 := n2_; have GW102 := n3_; have GE102 := n4_; have NB101_102 := n5_; have NB102_101 := n6_; clear n0_ n1_ n2_ n3_ n4_ n5_ n6_; clear hb hbox hg) | ((with_reducible refine gate_callee (f := 50) rfl ?_); refine goesL_ (some 6) rfl rfl Try.func50 (by kernel_rfl) rfl #[.pointer (some (Addr.add ⟨gb101, 0, none⟩ 0))] rfl (by (try simp only [List.map_toArray, List.map_cons, List.map_nil]); first | done | rfl | (simp only [List.length_drop, List.length_take]; rfl)) ?_; (with_reducible refine (spec_l26One.calls k _ [(⟨a0_0, l0_1⟩ : S28)] false _ ?side1 A3.out).mono ?_); (case side1 => exact (RPW.C_blk (cs := [.string a0_0, .slice A0_1 l0_1.length c0_1]) (t := 28) (g := gb101) (by (with_reducible repeat (first | refine blk_drewN ?_ _ | refine blk_drew ?_ | refine blk_alloc ?_ _)); exact BK101.out) (k28_mk _ (⟨a0_0, l0_1⟩ : S28) (by exact HC0_1.out) (by repeat (first | exact (Kd.C_below HR0_1.out HB.out) | (with_reducible refine Kd.C_alloc ?_ _) | (with_reducible refine Kd.C_drewN ?_ _) | (with_reducible refine Kd.C_drew ?_)))))); rintro e w' ⟨rfl, ⟨nd, rfl⟩⟩; refine ⟨_, rfl, ?_⟩))
    go_ret2
    exact ⟨by first | rfl | (simp [errW_none, errW_some] <;> rfl) | (simp [*, errW_none, errW_some] <;> rfl), by repeat (first | (with_reducible first | exact HB.out | apply below_alloc | apply pw_below_drewN | apply below_drew1 | refine below_set ?_ GE101.out | refine below_set ?_ GE102.out) | exact HB.out)⟩

end Go.Proofs.Yteafahnopgmgoaa.Q
namespace Go.Proofs.Yteafahnopgmgoaa.Q
open Go.RowKit Go.Proofs.YteafahnopgmgoaaW.PrintWords Go.Proofs.YteafahnopgmgoaaW.PrintLast Go.Proofs.YteafahnopgmgoaaW.PrintMore
attribute [local go_sem] max2_int min2_int max_two min_two max_three min_three max_four min_four   -- for this text's walks alone
set_option linter.unusedVariables false
set_option linter.unusedSimpArgs false

/-! ### impl_FeatureDistance: function 15 -/
def impl_FeatureDistance.f (k : Nat) (a0_0 : ByteArray) (l0_1 : List Int) (a1_0 : ByteArray) (l1_1 : List Int) : Option (Int × Int) := (impl_ValidFeature.f k a0_0 l0_1).bind fun t103 => (if t103 = true then ((impl_ValidFeature.f k a1_0 l1_1).bind fun t104 => (if t104 = true then ((impl_featureDistance.f k a0_0 l0_1 a1_0 l1_1).bind fun t105 => (some (t105, 0))) else (some (0, 1)))) else (some (0, 1)))
theorem impl_FeatureDistance.mono : ∀ a0 a1 a2 a3 k, LeO (impl_FeatureDistance.f k a0 a1 a2 a3) (impl_FeatureDistance.f (k + 1) a0 a1 a2 a3) := by
  intro a0 a1 a2 a3 k
  unfold impl_FeatureDistance.f
  repeat' first
      | (with_reducible exact impl_ValidFeature.mono _ _ _)
      | (with_reducible exact impl_featureDistance.mono _ _ _ _ _)
      | (with_reducible exact LeO.refl _)
      | (with_reducible exact LeO.none _)
      | (with_reducible refine LeO.ite ?_ ?_)
      | (with_reducible refine LeO.bind ?_ (fun _ => ?_))
      | exact impl_ValidFeature.mono _ _ _
      | exact impl_featureDistance.mono _ _ _ _ _
      | exact LeO.none _
      | refine LeO.ite ?_ ?_
      | refine LeO.bind ?_ (fun _ => ?_)
set_option maxHeartbeats 8000000 in
set_option maxRecDepth 100000 in
theorem impl_FeatureDistance.calls (k : Nat) (a0_0 : ByteArray) (A0_1 : Option Addr) (c0_1 : Nat) (l0_1 : List Int) (a1_0 : ByteArray) (A1_1 : Option Addr) (c1_1 : Nat) (l1_1 : List Int) (r1 : Int) (r2 : Int) (w : World) (hr0_1 : Kd.C (Kd.int .i64) w A0_1 l0_1.length l0_1) (hc0_1 : l0_1.length ≤ c0_1) (hr1_1 : Kd.C (Kd.int .i64) w A1_1 l1_1.length l1_1) (hc1_1 : l1_1.length ≤ c1_1) (h : impl_FeatureDistance.f k a0_0 l0_1 a1_0 l1_1 = some (r1, r2)) :
    Calls Try.prog 15 #[.agg #[.string a0_0, .slice A0_1 l0_1.length c0_1], .agg #[.string a1_0, .slice A1_1 l1_1.length c1_1]] w fun e w' => e = .returned (.tuple #[.int .i64 r1, .int .i64 r2]) ∧ Below w.heap.size w w' := by
  have hu28 := Try.underlying28
  have HR0_1 := Aside0.mk hr0_1
  have HC0_1 := Aside0.mk hc0_1
  clear hr0_1 hc0_1
  have HR1_1 := Aside0.mk hr1_1
  have HC1_1 := Aside0.mk hc1_1
  clear hr1_1 hc1_1
  have HB := Aside0.mk (Below.refl w.heap.size w)
  have H : ((impl_ValidFeature.f k a0_0 l0_1).bind fun t103 => (if t103 = true then ((impl_ValidFeature.f k a1_0 l1_1).bind fun t104 => (if t104 = true then ((impl_featureDistance.f k a0_0 l0_1 a1_0 l1_1).bind fun t105 => (some (t105, 0))) else (some (0, 1)))) else (some (0, 1)))) = some (r1, r2) := h
  clear h
  replace H := Option.bind_eq_some_iff.mp H
  obtain ⟨t103, A30, H⟩ := H
  replace H : (if t103 = true then ((impl_ValidFeature.f k a1_0 l1_1).bind fun t104 => (if t104 = true then ((impl_featureDistance.f k a0_0 l0_1 a1_0 l1_1).bind fun t105 => (some (t105, 0))) else (some (0, 1)))) else (some (0, 1))) = some (r1, r2) := H
  have A3 := Aside0.mk A30
  clear A30
  by_cases c4 : t103 = true
  · subst c4
    have H1 : ((impl_ValidFeature.f k a1_0 l1_1).bind fun t104 => (if t104 = true then ((impl_featureDistance.f k a0_0 l0_1 a1_0 l1_1).bind fun t105 => (some (t105, 0))) else (some (0, 1)))) = some (r1, r2) := by rw [if_pos rfl] at H; exact H
    clear H
    have H := H1
    clear H1
    replace H := Option.bind_eq_some_iff.mp H
    obtain ⟨t104, A50, H⟩ := H
    replace H : (if t104 = true then ((impl_featureDistance.f k a0_0 l0_1 a1_0 l1_1).bind fun t105 => (some (t105, 0))) else (some (0, 1))) = some (r1, r2) := H
    have A5 := Aside0.mk A50
    clear A50
    have HC6 := Aside0.mk H
    clear H
    go_enter Try.func15, Try.ntmps15
    go_upto_if 13 with (first | ((with_reducible refine gate_dst (N := 2) rfl ?_); refine box_event ?hg (N := 2) ?hd (cs := #[.string a0_0, .slice A0_1 l0_1.length c0_1]) (t := 28) ?hr ?_; (case hd => rfl); (case hg => rfl); (case hr => first | (go_simp; done) | (go_simp; rfl)); intro gb101 hg w7 hbox hb; have n0_ := Aside0.mk (below_step (by repeat (first | (with_reducible first | exact HB.out | apply below_alloc | apply pw_below_drewN | apply below_drew1) | exact HB.out)) hb); have n1_ := Aside0.mk (hbox); have n2_ := Aside0.mk ((by rw [hg]; exact (below_size (by repeat (first | (with_reducible first | exact HB.out | apply below_alloc | apply pw_below_drewN | apply below_drew1) | exact HB.out))) : w.heap.size ≤ gb101)); have n3_ := Aside0.mk ((by rw [hg]; exact (below_size (by repeat (first | (with_reducible first | exact HB.out | apply below_alloc | apply pw_below_drewN | apply below_drew1) | exact HB.out))) : w.heap.size ≤ gb101)); clear HB; have HB := n0_; have BK101 := n1_; have GW101 := n2_; have GE101 := n3_; clear n0_ n1_ n2_ n3_; clear hb hbox hg) | ((with_reducible refine gate_dst (N := 3) rfl ?_); refine box_event ?hg (N := 3) ?hd (cs := #[.string a1_0, .slice A1_1 l1_1.length c1_1]) (t := 28) ?hr ?_; (case hd => rfl); (case hg => rfl); (case hr => first | (go_simp; done) | (go_simp; rfl)); intro gb102 hg w8 hbox hb; have n0_ := Aside0.mk (blk_below (g := gb101) (o := .cells #[.string a0_0, .slice A0_1 l0_1.length c0_1] 28 (0, 0)) (by (with_reducible repeat (first | refine blk_drewN ?_ _ | refine blk_drew ?_ | refine blk_alloc ?_ _)); exact BK101.out) hb); have n1_ := Aside0.mk (below_step (by repeat (first | (with_reducible first | exact HB.out | apply below_alloc | apply pw_below_drewN | apply below_drew1 | refine below_set ?_ GE101.out) | exact HB.out)) hb); have n2_ := Aside0.mk (hbox); have n3_ := Aside0.mk ((by rw [hg]; exact (below_size (by repeat (first | (with_reducible first | exact HB.out | apply below_alloc | apply pw_below_drewN | apply below_drew1 | refine below_set ?_ GE101.out) | exact HB.out))) : w.heap.size ≤ gb102)); have n4_ := Aside0.mk ((by rw [hg]; exact (below_size (by repeat (first | (with_reducible first | exact HB.out | apply below_alloc | apply pw_below_drewN | apply below_drew1 | refine below_set ?_ GE101.out) | exact HB.out))) : w.heap.size ≤ gb102)); have n5_ := Aside0.mk ((by rw [hg]; exact Nat.ne_of_lt (blk_lt (g := gb101) (o := .cells #[.string a0_0, .slice A0_1 l0_1.length c0_1] 28 (0, 0)) (by (with_reducible repeat (first | refine blk_drewN ?_ _ | refine blk_drew ?_ | refine blk_alloc ?_ _)); exact BK101.out)) : gb101 ≠ gb102)); have n6_ := Aside0.mk ((by rw [hg]; exact Nat.ne_of_gt (blk_lt (g := gb101) (o := .cells #[.string a0_0, .slice A0_1 l0_1.length c0_1] 28 (0, 0)) (by (with_reducible repeat (first | refine blk_drewN ?_ _ | refine blk_drew ?_ | refine blk_alloc ?_ _)); exact BK101.out)) : gb102 ≠ gb101)); clear BK101; clear HB; have BK101 := n0_; have HB := n1_; have BK102 := n2_; have GW102 := n3_; have GE102 := n4_; have NB101_102 := n5_; have NB102_101 := n6_; clear n0_ n1_ n2_ n3_ n4_ n5_ n6_; clear hb hbox hg; have hnb9 := NB101_102.out; have hnc9 := NB102_101.out; have hcz10_0 : w8.cell? ⟨gb101, 0, none⟩ = some (.string a0_0) := (blk_cell BK101.out 0).trans rfl; have hcz10_1 : w8.cell? ⟨gb101, 1, none⟩ = some (.slice A0_1 l0_1.length c0_1) := (blk_cell BK101.out 1).trans rfl; have hfz10_0 := blk_frozen BK101.out 0; have hfz10_1 := blk_frozen BK101.out 1) | ((with_reducible refine gate_callee (f := 52) rfl ?_); refine goesL_ (some 7) rfl rfl Try.func52 (by kernel_rfl) rfl #[.agg #[.string a0_0, .slice A0_1 l0_1.length c0_1]] rfl (by (try simp only [List.map_toArray, List.map_cons, List.map_nil]); first | done | rfl | (simp only [List.length_drop, List.length_take]; rfl)) ?_; (with_reducible refine (impl_ValidFeature.calls k a0_0 _ _ l0_1 true _ ?side1 ?side2 A3.out).mono ?_); (case side1 => repeat (first | exact (Kd.C_below HR0_1.out HB.out) | (with_reducible refine Kd.C_alloc ?_ _) | (with_reducible refine Kd.C_drewN ?_ _) | (with_reducible refine Kd.C_drew ?_))); (case side2 => exact HC0_1.out); rintro e w11 ⟨rfl, hb⟩; refine ⟨_, rfl, ?_⟩; have n0_ := Aside0.mk (blk_below (g := gb101) (o := .cells #[.string a0_0, .slice A0_1 l0_1.length c0_1] 28 (0, 0)) (by (with_reducible repeat (first | refine blk_drewN ?_ _ | refine blk_drew ?_ | refine blk_alloc ?_ _)); exact BK101.out) hb); have n1_ := Aside0.mk (blk_below (g := gb102) (o := .cells #[.string a1_0, .slice A1_1 l1_1.length c1_1] 28 (0, 0)) (by (with_reducible repeat (first | refine blk_drewN ?_ _ | refine blk_drew ?_ | refine blk_alloc ?_ _)); exact BK102.out) hb); have n2_ := Aside0.mk (below_step (by repeat (first | (with_reducible first | exact HB.out | apply below_alloc | apply pw_below_drewN | apply below_drew1 | refine below_set ?_ GE101.out | refine below_set ?_ GE102.out) | exact HB.out)) hb); clear BK101; clear BK102; clear HB; have BK101 := n0_; have BK102 := n1_; have HB := n2_; clear n0_ n1_ n2_; (try clear hb); (try clear hb2); (try clear hk); (try clear hi); have hcz12_0 : w11.cell? ⟨gb102, 0, none⟩ = some (.string a1_0) := (blk_cell BK102.out 0).trans rfl; have hcz12_1 : w11.cell? ⟨gb102, 1, none⟩ = some (.slice A1_1 l1_1.length c1_1) := (blk_cell BK102.out 1).trans rfl; have hfz12_0 := blk_frozen BK102.out 0; have hfz12_1 := blk_frozen BK102.out 1) | (go_at_call 52; (with_reducible refine (impl_ValidFeature.calls k a1_0 _ _ l1_1 t104 _ ?side1 ?side2 A5.out).mono ?_); (case side1 => repeat (first | exact (Kd.C_below HR1_1.out HB.out) | (with_reducible refine Kd.C_alloc ?_ _) | (with_reducible refine Kd.C_drewN ?_ _) | (with_reducible refine Kd.C_drew ?_))); (case side2 => exact HC1_1.out); rintro e w13 ⟨rfl, hb⟩; have n0_ := Aside0.mk (blk_below (g := gb101) (o := .cells #[.string a0_0, .slice A0_1 l0_1.length c0_1] 28 (0, 0)) (by (with_reducible repeat (first | refine blk_drewN ?_ _ | refine blk_drew ?_ | refine blk_alloc ?_ _)); exact BK101.out) hb); have n1_ := Aside0.mk (blk_below (g := gb102) (o := .cells #[.string a1_0, .slice A1_1 l1_1.length c1_1] 28 (0, 0)) (by (with_reducible repeat (first | refine blk_drewN ?_ _ | refine blk_drew ?_ | refine blk_alloc ?_ _)); exact BK102.out) hb); have n2_ := Aside0.mk (below_step (by repeat (first | (with_reducible first | exact HB.out | apply below_alloc | apply pw_below_drewN | apply below_drew1 | refine below_set ?_ GE101.out | refine below_set ?_ GE102.out) | exact HB.out)) hb); clear BK101; clear BK102; clear HB; have BK101 := n0_; have BK102 := n1_; have HB := n2_; clear n0_ n1_ n2_; (try clear hb); (try clear hb2); (try clear hk); (try clear hi)))
    (try simp only [Act.put, List.setIfInBounds_toArray, List.set_cons_zero, List.set_cons_succ])
    have H := HC6.out
    clear HC6
    by_cases c14 : t104 = true
    · subst c14
      have H1 : ((impl_featureDistance.f k a0_0 l0_1 a1_0 l1_1).bind fun t105 => (some (t105, 0))) = some (r1, r2) := by rw [if_pos rfl] at H; exact H
      clear H
      have H := H1
      clear H1
      replace H := Option.bind_eq_some_iff.mp H
      obtain ⟨t105, A150, H⟩ := H
      replace H : (some (t105, 0)) = some (r1, r2) := H
      have A15 := Aside0.mk A150
      clear A150
      simp only [Option.some.injEq, Prod.mk.injEq] at H
      obtain ⟨rfl, rfl⟩ := H
      have hnb16 := NB101_102.out
      have hnc16 := NB102_101.out
      have hcz17_0 : w13.cell? ⟨gb101, 0, none⟩ = some (.string a0_0) := (blk_cell BK101.out 0).trans rfl
      have hcz17_1 : w13.cell? ⟨gb101, 1, none⟩ = some (.slice A0_1 l0_1.length c0_1) := (blk_cell BK101.out 1).trans rfl
      have hfz17_0 := blk_frozen BK101.out 0
      have hfz17_1 := blk_frozen BK101.out 1
      have hcz18_0 : w13.cell? ⟨gb102, 0, none⟩ = some (.string a1_0) := (blk_cell BK102.out 0).trans rfl
      have hcz18_1 : w13.cell? ⟨gb102, 1, none⟩ = some (.slice A1_1 l1_1.length c1_1) := (blk_cell BK102.out 1).trans rfl
      have hfz18_0 := blk_frozen BK102.out 0
      have hfz18_1 := blk_frozen BK102.out 1
      go_wp2_with (first | ((with_reducible refine gate_callee (f := 53) rfl ?_); refine goesL_ (some 16) rfl rfl Try.func53 (by kernel_rfl) rfl #[.agg #[.string a0_0, .slice A0_1 l0_1.length c0_1], .agg #[.string a1_0, .slice A1_1 l1_1.length c1_1]] rfl (by (try simp only [List.map_toArray, List.map_cons, List.map_nil]); first | done | rfl | (simp only [List.length_drop, List.length_take]; rfl)) ?_; (with_reducible refine (impl_featureDistance.calls k a0_0 _ _ l0_1 a1_0 _ _ l1_1 t105 _ ?side1 ?side2 ?side3 ?side4 A15.out).mono ?_); (case side1 => repeat (first | exact (Kd.C_below HR0_1.out (by repeat (first | (with_reducible first | exact HB.out | apply below_alloc | apply pw_below_drewN | apply below_drew1 | refine below_set ?_ GE101.out | refine below_set ?_ GE102.out) | exact HB.out))) | (with_reducible refine Kd.C_alloc ?_ _) | (with_reducible refine Kd.C_drewN ?_ _) | (with_reducible refine Kd.C_drew ?_))); (case side2 => exact HC0_1.out); (case side3 => repeat (first | exact (Kd.C_below HR1_1.out (by repeat (first | (with_reducible first | exact HB.out | apply below_alloc | apply pw_below_drewN | apply below_drew1 | refine below_set ?_ GE101.out | refine below_set ?_ GE102.out) | exact HB.out))) | (with_reducible refine Kd.C_alloc ?_ _) | (with_reducible refine Kd.C_drewN ?_ _) | (with_reducible refine Kd.C_drew ?_))); (case side4 => exact HC1_1.out); rintro e w19 ⟨rfl, hb⟩; refine ⟨_, rfl, ?_⟩; have n0_ := Aside0.mk (blk_below (g := gb101) (o := .cells #[.string a0_0, .slice A0_1 l0_1.length c0_1] 28 (0, 0)) (by (with_reducible repeat (first | refine blk_drewN ?_ _ | refine blk_drew ?_ | refine blk_alloc ?_ _)); exact BK101.out) hb); have n1_ := Aside0.mk (blk_below (g := gb102) (o := .cells #[.string a1_0, .slice A1_1 l1_1.length c1_1] 28 (0, 0)) (by (with_reducible repeat (first | refine blk_drewN ?_ _ | refine blk_drew ?_ | refine blk_alloc ?_ _)); exact BK102.out) hb); have n2_ := Aside0.mk (below_step (by repeat (first | (with_reducible first | exact HB.out | apply below_alloc | apply pw_below_drewN | apply below_drew1 | refine below_set ?_ GE101.out | refine below_set ?_ GE102.out) | exact HB.out)) hb); clear BK101; clear BK102; clear HB; have BK101 := n0_; have BK102 := n1_; have HB := n2_; clear n0_ n1_ n2_; (try clear hb); (try clear hb2); (try clear hk); (try clear hi)))
      go_ret2
      exact ⟨by first | rfl | (simp [errW_none, errW_some] <;> rfl) | (simp [*, errW_none, errW_some] <;> rfl), by repeat (first | (with_reducible first | exact HB.out | apply below_alloc | apply pw_below_drewN | apply below_drew1 | refine below_set ?_ GE101.out | refine below_set ?_ GE102.out) | exact HB.out)⟩
    · replace c14 := Bool.eq_false_iff.mpr c14
      subst c14
      have H1 : (some (0, 1)) = some (r1, r2) := by rw [if_neg (show ¬ (false = true) by decide)] at H; exact H
      clear H
      have H := H1
      clear H1
      simp only [Option.some.injEq, Prod.mk.injEq] at H
      obtain ⟨rfl, rfl⟩ := H
      go_wp2
      go_ret2
      exact ⟨by first | rfl | (simp [errW_none, errW_some] <;> rfl) | (simp [*, errW_none, errW_some] <;> rfl), by repeat (first | (with_reducible first | exact HB.out | apply below_alloc | apply pw_below_drewN | apply below_drew1 | refine below_set ?_ GE101.out | refine below_set ?_ GE102.out) | exact HB.out)⟩
  · replace c4 := Bool.eq_false_iff.mpr c4
    subst c4
    have H1 : (some (0, 1)) = some (r1, r2) := by rw [if_neg (show ¬ (false = true) by decide)] at H; exact H
    clear H
    have H := H1
    clear H1
    simp only [Option.some.injEq, Prod.mk.injEq] at H
    obtain ⟨rfl, rfl⟩ := H
    go_enter Try.func15, Try.ntmps15
    go_wp2_with (first | ((with_reducible refine gate_dst (N := 2) rfl ?_); refine box_event ?hg (N := 2) ?hd (cs := #[.string a0_0, .slice A0_1 l0_1.length c0_1]) (t := 28) ?hr ?_; (case hd => rfl); (case hg => rfl); (case hr => first | (go_simp; done) | (go_simp; rfl)); intro gb101 hg w20 hbox hb; have n0_ := Aside0.mk (below_step (by repeat (first | (with_reducible first | exact HB.out | apply below_alloc | apply pw_below_drewN | apply below_drew1) | exact HB.out)) hb); have n1_ := Aside0.mk (hbox); have n2_ := Aside0.mk ((by rw [hg]; exact (below_size (by repeat (first | (with_reducible first | exact HB.out | apply below_alloc | apply pw_below_drewN | apply below_drew1) | exact HB.out))) : w.heap.size ≤ gb101)); have n3_ := Aside0.mk ((by rw [hg]; exact (below_size (by repeat (first | (with_reducible first | exact HB.out | apply below_alloc | apply pw_below_drewN | apply below_drew1) | exact HB.out))) : w.heap.size ≤ gb101)); clear HB; have HB := n0_; have BK101 := n1_; have GW101 := n2_; have GE101 := n3_; clear n0_ n1_ n2_ n3_; clear hb hbox hg) | ((with_reducible refine gate_dst (N := 3) rfl ?_); refine box_event ?hg (N := 3) ?hd (cs := #[.string a1_0, .slice A1_1 l1_1.length c1_1]) (t := 28) ?hr ?_; (case hd => rfl); (case hg => rfl); (case hr => first | (go_simp; done) | (go_simp; rfl)); intro gb102 hg w21 hbox hb; have n0_ := Aside0.mk (blk_below (g := gb101) (o := .cells #[.string a0_0, .slice A0_1 l0_1.length c0_1] 28 (0, 0)) (by (with_reducible repeat (first | refine blk_drewN ?_ _ | refine blk_drew ?_ | refine blk_alloc ?_ _)); exact BK101.out) hb); have n1_ := Aside0.mk (below_step (by repeat (first | (with_reducible first | exact HB.out | apply below_alloc | apply pw_below_drewN | apply below_drew1 | refine below_set ?_ GE101.out) | exact HB.out)) hb); have n2_ := Aside0.mk (hbox); have n3_ := Aside0.mk ((by rw [hg]; exact (below_size (by repeat (first | (with_reducible first | exact HB.out | apply below_alloc | apply pw_below_drewN | apply below_drew1 | refine below_set ?_ GE101.out) | exact HB.out))) : w.heap.size ≤ gb102)); have n4_ := Aside0.mk ((by rw [hg]; exact (below_size (by repeat (first | (with_reducible first | exact HB.out | apply below_alloc | apply pw_below_drewN | apply below_drew1 | refine below_set ?_ GE101.out) | exact HB.out))) : w.heap.size ≤ gb102)); have n5_ := Aside0.mk ((by rw [hg]; exact Nat.ne_of_lt (blk_lt (g := gb101) (o := .cells #[.string a0_0, .slice A0_1 l0_1.length c0_1] 28 (0, 0)) (by (with_reducible repeat (first | refine blk_drewN ?_ _ | refine blk_drew ?_ | refine blk_alloc ?_ _)); exact BK101.out)) : gb101 ≠ gb102)); have n6_ := Aside0.mk ((by rw [hg]; exact Nat.ne_of_gt (blk_lt (g := gb101) (o := .cells #[.string a0_0, .slice A0_1 l0_1.length c0_1] 28 (0, 0)) (by (with_reducible repeat (first | refine blk_drewN ?_ _ | refine blk_drew ?_ | refine blk_alloc ?_ _)); exact BK101.out)) : gb102 ≠ gb101)); clear BK101; clear HB; have BK101 := n0_; have HB := n1_; have BK102 := n2_; have GW102 := n3_; have GE102 := n4_; have NB101_102 := n5_; have NB102_101 := n6_; clear n0_ n1_ n2_ n3_ n4_ n5_ n6_; clear hb hbox hg; have hnb22 := NB101_102.out; have hnc22 := NB102_101.out; have hcz23_0 : w21.cell? ⟨gb101, 0, none⟩ = some (.string a0_0) := (blk_cell BK101.out 0).trans rfl; have hcz23_1 : w21.cell? ⟨gb101, 1, none⟩ = some (.slice A0_1 l0_1.length c0_1) := (blk_cell BK101.out 1).trans rfl; have hfz23_0 := blk_frozen BK101.out 0; have hfz23_1 := blk_frozen BK101.out 1) | ((with_reducible refine gate_callee (f := 52) rfl ?_); refine goesL_ (some 7) rfl rfl Try.func52 (by kernel_rfl) rfl #[.agg #[.string a0_0, .slice A0_1 l0_1.length c0_1]] rfl (by (try simp only [List.map_toArray, List.map_cons, List.map_nil]); first | done | rfl | (simp only [List.length_drop, List.length_take]; rfl)) ?_; (with_reducible refine (impl_ValidFeature.calls k a0_0 _ _ l0_1 false _ ?side1 ?side2 A3.out).mono ?_); (case side1 => repeat (first | exact (Kd.C_below HR0_1.out HB.out) | (with_reducible refine Kd.C_alloc ?_ _) | (with_reducible refine Kd.C_drewN ?_ _) | (with_reducible refine Kd.C_drew ?_))); (case side2 => exact HC0_1.out); rintro e w24 ⟨rfl, hb⟩; refine ⟨_, rfl, ?_⟩; have n0_ := Aside0.mk (blk_below (g := gb101) (o := .cells #[.string a0_0, .slice A0_1 l0_1.length c0_1] 28 (0, 0)) (by (with_reducible repeat (first | refine blk_drewN ?_ _ | refine blk_drew ?_ | refine blk_alloc ?_ _)); exact BK101.out) hb); have n1_ := Aside0.mk (blk_below (g := gb102) (o := .cells #[.string a1_0, .slice A1_1 l1_1.length c1_1] 28 (0, 0)) (by (with_reducible repeat (first | refine blk_drewN ?_ _ | refine blk_drew ?_ | refine blk_alloc ?_ _)); exact BK102.out) hb); have n2_ := Aside0.mk (below_step (by repeat (first | (with_reducible first | exact HB.out | apply below_alloc | apply pw_below_drewN | apply below_drew1 | refine below_set ?_ GE101.out | refine below_set ?_ GE102.out) | exact HB.out)) hb); clear BK101; clear BK102; clear HB; have BK101 := n0_; have BK102 := n1_; have HB := n2_; clear n0_ n1_ n2_; (try clear hb); (try clear hb2); (try clear hk); (try clear hi)))
    go_ret2
    exact ⟨by first | rfl | (simp [errW_none, errW_some] <;> rfl) | (simp [*, errW_none, errW_some] <;> rfl), by repeat (first | (with_reducible first | exact HB.out | apply below_alloc | apply pw_below_drewN | apply below_drew1 | refine below_set ?_ GE101.out | refine below_set ?_ GE102.out) | exact HB.out)⟩

end Go.Proofs.Yteafahnopgmgoaa.Q
namespace Go.Proofs.Yteafahnopgmgoaa.Q
open Go.RowKit Go.Proofs.YteafahnopgmgoaaW.PrintWords Go.Proofs.YteafahnopgmgoaaW.PrintLast Go.Proofs.YteafahnopgmgoaaW.PrintMore
attribute [local go_sem] max2_int min2_int max_two min_two max_three min_three max_four min_four   -- for this text's walks alone
set_option linter.unusedVariables false
set_option linter.unusedSimpArgs false

/-! ### laws_FnExactFeatureDistance: function 3 -/
def laws_FnExactFeatureDistance.j0 : Nat → Bool → ByteArray → List Int → ByteArray → List Int → ByteArray → List Int → ByteArray → List Int → Option (Bool)
  | 0, _, _, _, _, _, _, _, _, _ => none
  | k + 1, x47, x102000, x102001, x103000, x103001, x120000, x120001, x125000, x125001 => if x47 = true then (some false) else ((laws_toFeature.f k x102000 x102001).bind fun bt127 => ((laws_eqFeature.f k x120000 x120001 bt127.1 bt127.2).bind fun t131 => (if t131 = true then ((laws_toFeature.f k x103000 x103001).bind fun bt132 => ((laws_eqFeature.f k x125000 x125001 bt132.1 bt132.2).bind fun t136 => (if t136 = true then (some true) else (some false)))) else (some false))))
def laws_FnExactFeatureDistance.f (k : Nat) (a0_0 : ByteArray) (l0_1 : List Int) (a1_0 : ByteArray) (l1_1 : List Int) : Option (Bool) := (laws_szFeature.f a0_0 l0_1 1048576).bind fun t103 => (if t103 < 0 then (some true) else ((laws_szFeature.f a1_0 l1_1 t103).bind fun t104 => (if t104 < 0 then (some true) else ((laws_toFeature.f k a0_0 l0_1).bind fun bt105 => ((laws_toFeature.f k a1_0 l1_1).bind fun bt109 => ((spec_FeatureDistance.f k bt105.1 bt105.2 bt109.1 bt109.2).bind fun bt113 => ((laws_toFeature.f k a0_0 l0_1).bind fun bt115 => ((laws_toFeature.f k a1_0 l1_1).bind fun bt120 => ((impl_FeatureDistance.f k bt115.1 bt115.2 bt120.1 bt120.2).bind fun bt125 => (if bt125.1 = bt113.1 then (laws_FnExactFeatureDistance.j0 k (bt125.2 != bt113.2) a0_0 l0_1 a1_0 l1_1 bt115.1 bt115.2 bt120.1 bt120.2) else (laws_FnExactFeatureDistance.j0 k true a0_0 l0_1 a1_0 l1_1 bt115.1 bt115.2 bt120.1 bt120.2)))))))))))
theorem laws_FnExactFeatureDistance.mono_l : ∀ k, (∀ y0 y1 y2 y3 y4 y5 y6 y7 y8, LeO (laws_FnExactFeatureDistance.j0 k y0 y1 y2 y3 y4 y5 y6 y7 y8) (laws_FnExactFeatureDistance.j0 (k + 1) y0 y1 y2 y3 y4 y5 y6 y7 y8))
  | 0 => fun _ _ _ _ _ _ _ _ _ r h => by simp [laws_FnExactFeatureDistance.j0] at h
  | k + 1 => by
    have ih0 := laws_FnExactFeatureDistance.mono_l k
    · intro y0 y1 y2 y3 y4 y5 y6 y7 y8
      unfold laws_FnExactFeatureDistance.j0
      repeat' first
      | (with_reducible exact ih0 _ _ _ _ _ _ _ _ _)
      | (with_reducible exact impl_FeatureDistance.mono _ _ _ _ _)
      | (with_reducible exact laws_eqFeature.mono _ _ _ _ _)
      | (with_reducible exact laws_toFeature.mono _ _ _)
      | (with_reducible exact spec_FeatureDistance.mono _ _ _ _ _)
      | (with_reducible exact LeO.refl _)
      | (with_reducible exact LeO.none _)
      | (with_reducible refine LeO.ite ?_ ?_)
      | (with_reducible refine LeO.bind ?_ (fun _ => ?_))
      | exact ih0 _ _ _ _ _ _ _ _ _
      | exact impl_FeatureDistance.mono _ _ _ _ _
      | exact laws_eqFeature.mono _ _ _ _ _
      | exact laws_toFeature.mono _ _ _
      | exact spec_FeatureDistance.mono _ _ _ _ _
      | exact LeO.none _
      | refine LeO.ite ?_ ?_
      | refine LeO.bind ?_ (fun _ => ?_)
theorem laws_FnExactFeatureDistance.mono : ∀ a0 a1 a2 a3 k, LeO (laws_FnExactFeatureDistance.f k a0 a1 a2 a3) (laws_FnExactFeatureDistance.f (k + 1) a0 a1 a2 a3) := by
  intro a0 a1 a2 a3 k
  have ih0 := laws_FnExactFeatureDistance.mono_l k
  unfold laws_FnExactFeatureDistance.f
  repeat' first
      | (with_reducible exact ih0 _ _ _ _ _ _ _ _ _)
      | (with_reducible exact impl_FeatureDistance.mono _ _ _ _ _)
      | (with_reducible exact laws_eqFeature.mono _ _ _ _ _)
      | (with_reducible exact laws_toFeature.mono _ _ _)
      | (with_reducible exact spec_FeatureDistance.mono _ _ _ _ _)
      | (with_reducible exact LeO.refl _)
      | (with_reducible exact LeO.none _)
      | (with_reducible refine LeO.ite ?_ ?_)
      | (with_reducible refine LeO.bind ?_ (fun _ => ?_))
      | exact ih0 _ _ _ _ _ _ _ _ _
      | exact impl_FeatureDistance.mono _ _ _ _ _
      | exact laws_eqFeature.mono _ _ _ _ _
      | exact laws_toFeature.mono _ _ _
      | exact spec_FeatureDistance.mono _ _ _ _ _
      | exact LeO.none _
      | refine LeO.ite ?_ ?_
      | refine LeO.bind ?_ (fun _ => ?_)
def laws_FnExactFeatureDistance.T8 : Bool × List (List Nat × List Nat) := (true, [([], []), ([0], [0]), ([], []), ([2, 1], [2]), ([1, 3, 3], [1, 3]), ([4], [4]), ([5], [5]), ([5], [5]), ([6, 4, 0, 1, 2, 3, 4, 5, 6], [6]), ([7, 8, 0, 1, 2, 3, 4, 5, 6, 7, 8], [7])])
def laws_FnExactFeatureDistance.B8 : List Nat := [0, 1, 0, 7, 15, 31, 63, 63, 127, 511]
theorem laws_FnExactFeatureDistance.tab8 : rtab .any (opsOf Try.f3 8) = laws_FnExactFeatureDistance.T8 := by kernel_rfl
theorem laws_FnExactFeatureDistance.bits8 : waitsOk laws_FnExactFeatureDistance.T8.2 laws_FnExactFeatureDistance.B8 = true := by kernel_rfl
set_option maxHeartbeats 8000000 in
set_option maxRecDepth 100000 in
theorem laws_FnExactFeatureDistance.calls (k : Nat) (a0_0 : ByteArray) (A0_1 : Option Addr) (c0_1 : Nat) (l0_1 : List Int) (a1_0 : ByteArray) (A1_1 : Option Addr) (c1_1 : Nat) (l1_1 : List Int) (r : Bool) (w : World) (hr0_1 : Kd.C (Kd.int .i64) w A0_1 l0_1.length l0_1) (hc0_1 : l0_1.length ≤ c0_1) (hr1_1 : Kd.C (Kd.int .i64) w A1_1 l1_1.length l1_1) (hc1_1 : l1_1.length ≤ c1_1) (h : laws_FnExactFeatureDistance.f k a0_0 l0_1 a1_0 l1_1 = some r) :
    Calls Try.prog 3 #[.agg #[.string a0_0, .slice A0_1 l0_1.length c0_1], .agg #[.string a1_0, .slice A1_1 l1_1.length c1_1]] w fun e w' => e = .returned (.bool r) ∧ Below w.heap.size w w' := by
  have hu24 := Try.underlying24
  have hu28 := Try.underlying28
  have HR0_1 := Aside0.mk hr0_1
  have HC0_1 := Aside0.mk hc0_1
  clear hr0_1 hc0_1
  have HR1_1 := Aside0.mk hr1_1
  have HC1_1 := Aside0.mk hc1_1
  clear hr1_1 hc1_1
  have HB := Aside0.mk (Below.refl w.heap.size w)
  have H : ((laws_szFeature.f a0_0 l0_1 1048576).bind fun t103 => (if t103 < 0 then (some true) else ((laws_szFeature.f a1_0 l1_1 t103).bind fun t104 => (if t104 < 0 then (some true) else ((laws_toFeature.f k a0_0 l0_1).bind fun bt105 => ((laws_toFeature.f k a1_0 l1_1).bind fun bt109 => ((spec_FeatureDistance.f k bt105.1 bt105.2 bt109.1 bt109.2).bind fun bt113 => ((laws_toFeature.f k a0_0 l0_1).bind fun bt115 => ((laws_toFeature.f k a1_0 l1_1).bind fun bt120 => ((impl_FeatureDistance.f k bt115.1 bt115.2 bt120.1 bt120.2).bind fun bt125 => (if bt125.1 = bt113.1 then (laws_FnExactFeatureDistance.j0 k (bt125.2 != bt113.2) a0_0 l0_1 a1_0 l1_1 bt115.1 bt115.2 bt120.1 bt120.2) else (laws_FnExactFeatureDistance.j0 k true a0_0 l0_1 a1_0 l1_1 bt115.1 bt115.2 bt120.1 bt120.2)))))))))))) = some r := h
  clear h
  replace H := Option.bind_eq_some_iff.mp H
  obtain ⟨t103, A30, H⟩ := H
  replace H : (if t103 < 0 then (some true) else ((laws_szFeature.f a1_0 l1_1 t103).bind fun t104 => (if t104 < 0 then (some true) else ((laws_toFeature.f k a0_0 l0_1).bind fun bt105 => ((laws_toFeature.f k a1_0 l1_1).bind fun bt109 => ((spec_FeatureDistance.f k bt105.1 bt105.2 bt109.1 bt109.2).bind fun bt113 => ((laws_toFeature.f k a0_0 l0_1).bind fun bt115 => ((laws_toFeature.f k a1_0 l1_1).bind fun bt120 => ((impl_FeatureDistance.f k bt115.1 bt115.2 bt120.1 bt120.2).bind fun bt125 => (if bt125.1 = bt113.1 then (laws_FnExactFeatureDistance.j0 k (bt125.2 != bt113.2) a0_0 l0_1 a1_0 l1_1 bt115.1 bt115.2 bt120.1 bt120.2) else (laws_FnExactFeatureDistance.j0 k true a0_0 l0_1 a1_0 l1_1 bt115.1 bt115.2 bt120.1 bt120.2))))))))))) = some r := H
  have A3 := Aside0.mk A30
  clear A30
  have HC4 := Aside0.mk H
  clear H
  go_enter Try.func3, Try.ntmps3
  go_upto_if 16 with (first | ((with_reducible refine gate_dst (N := 2) rfl ?_); refine box_event ?hg (N := 2) ?hd (cs := #[.string a0_0, .slice A0_1 l0_1.length c0_1]) (t := 24) ?hr ?_; (case hd => rfl); (case hg => rfl); (case hr => first | (go_simp; done) | (go_simp; rfl)); intro gb101 hg w5 hbox hb; have n0_ := Aside0.mk (below_step (by repeat (first | (with_reducible first | exact HB.out | apply below_alloc | apply pw_below_drewN | apply below_drew1) | exact HB.out)) hb); have n1_ := Aside0.mk (hbox); have n2_ := Aside0.mk ((by rw [hg]; exact (below_size (by repeat (first | (with_reducible first | exact HB.out | apply below_alloc | apply pw_below_drewN | apply below_drew1) | exact HB.out))) : w.heap.size ≤ gb101)); have n3_ := Aside0.mk ((by rw [hg]; exact (below_size (by repeat (first | (with_reducible first | exact HB.out | apply below_alloc | apply pw_below_drewN | apply below_drew1) | exact HB.out))) : w.heap.size ≤ gb101)); clear HB; have HB := n0_; have BK101 := n1_; have GW101 := n2_; have GE101 := n3_; clear n0_ n1_ n2_ n3_; clear hb hbox hg) | ((with_reducible refine gate_dst (N := 3) rfl ?_); refine box_event ?hg (N := 3) ?hd (cs := #[.string a1_0, .slice A1_1 l1_1.length c1_1]) (t := 24) ?hr ?_; (case hd => rfl); (case hg => rfl); (case hr => first | (go_simp; done) | (go_simp; rfl)); intro gb102 hg w6 hbox hb; have n0_ := Aside0.mk (blk_below (g := gb101) (o := .cells #[.string a0_0, .slice A0_1 l0_1.length c0_1] 24 (0, 0)) (by (with_reducible repeat (first | refine blk_drewN ?_ _ | refine blk_drew ?_ | refine blk_alloc ?_ _)); exact BK101.out) hb); have n1_ := Aside0.mk (below_step (by repeat (first | (with_reducible first | exact HB.out | apply below_alloc | apply pw_below_drewN | apply below_drew1 | refine below_set ?_ GE101.out) | exact HB.out)) hb); have n2_ := Aside0.mk (hbox); have n3_ := Aside0.mk ((by rw [hg]; exact (below_size (by repeat (first | (with_reducible first | exact HB.out | apply below_alloc | apply pw_below_drewN | apply below_drew1 | refine below_set ?_ GE101.out) | exact HB.out))) : w.heap.size ≤ gb102)); have n4_ := Aside0.mk ((by rw [hg]; exact (below_size (by repeat (first | (with_reducible first | exact HB.out | apply below_alloc | apply pw_below_drewN | apply below_drew1 | refine below_set ?_ GE101.out) | exact HB.out))) : w.heap.size ≤ gb102)); have n5_ := Aside0.mk ((by rw [hg]; exact Nat.ne_of_lt (blk_lt (g := gb101) (o := .cells #[.string a0_0, .slice A0_1 l0_1.length c0_1] 24 (0, 0)) (by (with_reducible repeat (first | refine blk_drewN ?_ _ | refine blk_drew ?_ | refine blk_alloc ?_ _)); exact BK101.out)) : gb101 ≠ gb102)); have n6_ := Aside0.mk ((by rw [hg]; exact Nat.ne_of_gt (blk_lt (g := gb101) (o := .cells #[.string a0_0, .slice A0_1 l0_1.length c0_1] 24 (0, 0)) (by (with_reducible repeat (first | refine blk_drewN ?_ _ | refine blk_drew ?_ | refine blk_alloc ?_ _)); exact BK101.out)) : gb102 ≠ gb101)); clear BK101; clear HB; have BK101 := n0_; have HB := n1_; have BK102 := n2_; have GW102 := n3_; have GE102 := n4_; have NB101_102 := n5_; have NB102_101 := n6_; clear n0_ n1_ n2_ n3_ n4_ n5_ n6_; clear hb hbox hg; have hnb7 := NB101_102.out; have hnc7 := NB102_101.out; have hcz8_0 : w6.cell? ⟨gb101, 0, none⟩ = some (.string a0_0) := (blk_cell BK101.out 0).trans rfl; have hcz8_1 : w6.cell? ⟨gb101, 1, none⟩ = some (.slice A0_1 l0_1.length c0_1) := (blk_cell BK101.out 1).trans rfl; have hfz8_0 := blk_frozen BK101.out 0; have hfz8_1 := blk_frozen BK101.out 1) | ((with_reducible refine gate_callee (f := 12) rfl ?_); refine goesL_ (some 14) rfl rfl Try.func12 (by kernel_rfl) rfl #[.agg #[.string a0_0, .slice A0_1 l0_1.length c0_1], .int .i64 1048576] rfl (by (try simp only [List.map_toArray, List.map_cons, List.map_nil]); first | done | rfl | (simp only [List.length_drop, List.length_take]; rfl)) ?_; (with_reducible refine (laws_szFeature.calls a0_0 _ _ l0_1 1048576 t103 _ ?side1 ?side2 A3.out).mono ?_); (case side1 => repeat (first | exact (Kd.C_below HR0_1.out HB.out) | (with_reducible refine Kd.C_alloc ?_ _) | (with_reducible refine Kd.C_drewN ?_ _) | (with_reducible refine Kd.C_drew ?_))); (case side2 => exact HC0_1.out); rintro e w9 ⟨rfl, hb⟩; refine ⟨_, rfl, ?_⟩; have n0_ := Aside0.mk (blk_below (g := gb101) (o := .cells #[.string a0_0, .slice A0_1 l0_1.length c0_1] 24 (0, 0)) (by (with_reducible repeat (first | refine blk_drewN ?_ _ | refine blk_drew ?_ | refine blk_alloc ?_ _)); exact BK101.out) hb); have n1_ := Aside0.mk (blk_below (g := gb102) (o := .cells #[.string a1_0, .slice A1_1 l1_1.length c1_1] 24 (0, 0)) (by (with_reducible repeat (first | refine blk_drewN ?_ _ | refine blk_drew ?_ | refine blk_alloc ?_ _)); exact BK102.out) hb); have n2_ := Aside0.mk (below_step (by repeat (first | (with_reducible first | exact HB.out | apply below_alloc | apply pw_below_drewN | apply below_drew1 | refine below_set ?_ GE101.out | refine below_set ?_ GE102.out) | exact HB.out)) hb); clear BK101; clear BK102; clear HB; have BK101 := n0_; have BK102 := n1_; have HB := n2_; clear n0_ n1_ n2_; (try clear hb); (try clear hb2); (try clear hk); (try clear hi)))
  (try simp only [Act.put, List.setIfInBounds_toArray, List.set_cons_zero, List.set_cons_succ])
  have H := HC4.out
  clear HC4
  by_cases c10 : t103 < 0
  · rw [if_pos c10] at H
    have c10b0 : decide (t103 < 0) = true := decide_eq_true c10
    clear c10
    (first | rw [c10b0] | (simp only [i64_w, i32_w]; rw [c10b0]) | (simp only [c10b2, Bool.not_true, Bool.not_false]) | (simp only [c10b1, Bool.not_true, Bool.not_false]) | (simp only [c10b0, Bool.not_true, Bool.not_false]) | skip)
    obtain rfl := Option.some.inj H
    go_wp2
    go_ret
    exact ⟨by first | rfl | (simp [errW_none, errW_some] <;> rfl) | (simp [*, errW_none, errW_some] <;> rfl), by repeat (first | (with_reducible first | exact HB.out | apply below_alloc | apply pw_below_drewN | apply below_drew1 | refine below_set ?_ GE101.out | refine below_set ?_ GE102.out) | exact HB.out)⟩
  · rw [if_neg c10] at H
    have c10b0 : decide (t103 < 0) = false := decide_eq_false c10
    clear c10
    (first | rw [c10b0] | (simp only [i64_w, i32_w]; rw [c10b0]) | (simp only [c10b2, Bool.not_true, Bool.not_false]) | (simp only [c10b1, Bool.not_true, Bool.not_false]) | (simp only [c10b0, Bool.not_true, Bool.not_false]) | skip)
    replace H := Option.bind_eq_some_iff.mp H
    obtain ⟨t104, A110, H⟩ := H
    replace H : (if t104 < 0 then (some true) else ((laws_toFeature.f k a0_0 l0_1).bind fun bt105 => ((laws_toFeature.f k a1_0 l1_1).bind fun bt109 => ((spec_FeatureDistance.f k bt105.1 bt105.2 bt109.1 bt109.2).bind fun bt113 => ((laws_toFeature.f k a0_0 l0_1).bind fun bt115 => ((laws_toFeature.f k a1_0 l1_1).bind fun bt120 => ((impl_FeatureDistance.f k bt115.1 bt115.2 bt120.1 bt120.2).bind fun bt125 => (if bt125.1 = bt113.1 then (laws_FnExactFeatureDistance.j0 k (bt125.2 != bt113.2) a0_0 l0_1 a1_0 l1_1 bt115.1 bt115.2 bt120.1 bt120.2) else (laws_FnExactFeatureDistance.j0 k true a0_0 l0_1 a1_0 l1_1 bt115.1 bt115.2 bt120.1 bt120.2))))))))) = some r := H
    have A11 := Aside0.mk A110
    clear A110
    have HC12 := Aside0.mk H
    clear H
    have hnb13 := NB102_101.out
    have hnc13 := NB101_102.out
    have hcz14_0 : w9.cell? ⟨gb102, 0, none⟩ = some (.string a1_0) := (blk_cell BK102.out 0).trans rfl
    have hcz14_1 : w9.cell? ⟨gb102, 1, none⟩ = some (.slice A1_1 l1_1.length c1_1) := (blk_cell BK102.out 1).trans rfl
    have hfz14_0 := blk_frozen BK102.out 0
    have hfz14_1 := blk_frozen BK102.out 1
    go_upto_if 21 with (first | ((with_reducible refine gate_callee (f := 12) rfl ?_); refine goesL_ (some 19) rfl rfl Try.func12 (by kernel_rfl) rfl #[.agg #[.string a1_0, .slice A1_1 l1_1.length c1_1], .int .i64 t103] rfl (by (try simp only [List.map_toArray, List.map_cons, List.map_nil]); first | done | rfl | (simp only [List.length_drop, List.length_take]; rfl)) ?_; (with_reducible refine (laws_szFeature.calls a1_0 _ _ l1_1 t103 t104 _ ?side1 ?side2 A11.out).mono ?_); (case side1 => repeat (first | exact (Kd.C_below HR1_1.out (by repeat (first | (with_reducible first | exact HB.out | apply below_alloc | apply pw_below_drewN | apply below_drew1 | refine below_set ?_ GE101.out | refine below_set ?_ GE102.out) | exact HB.out))) | (with_reducible refine Kd.C_alloc ?_ _) | (with_reducible refine Kd.C_drewN ?_ _) | (with_reducible refine Kd.C_drew ?_))); (case side2 => exact HC1_1.out); rintro e w15 ⟨rfl, hb⟩; refine ⟨_, rfl, ?_⟩; have n0_ := Aside0.mk (blk_below (g := gb101) (o := .cells #[.string a0_0, .slice A0_1 l0_1.length c0_1] 24 (0, 0)) (by (with_reducible repeat (first | refine blk_drewN ?_ _ | refine blk_drew ?_ | refine blk_alloc ?_ _)); exact BK101.out) hb); have n1_ := Aside0.mk (blk_below (g := gb102) (o := .cells #[.string a1_0, .slice A1_1 l1_1.length c1_1] 24 (0, 0)) (by (with_reducible repeat (first | refine blk_drewN ?_ _ | refine blk_drew ?_ | refine blk_alloc ?_ _)); exact BK102.out) hb); have n2_ := Aside0.mk (below_step (by repeat (first | (with_reducible first | exact HB.out | apply below_alloc | apply pw_below_drewN | apply below_drew1 | refine below_set ?_ GE101.out | refine below_set ?_ GE102.out) | exact HB.out)) hb); clear BK101; clear BK102; clear HB; have BK101 := n0_; have BK102 := n1_; have HB := n2_; clear n0_ n1_ n2_; (try clear hb); (try clear hb2); (try clear hk); (try clear hi)))
    (try simp only [Act.put, List.setIfInBounds_toArray, List.set_cons_zero, List.set_cons_succ])
    have H := HC12.out
    clear HC12
    by_cases c16 : t104 < 0
    · rw [if_pos c16] at H
      have c16b0 : decide (t104 < 0) = true := decide_eq_true c16
      clear c16
      (first | rw [c16b0] | (simp only [i64_w, i32_w]; rw [c16b0]) | (simp only [c16b2, Bool.not_true, Bool.not_false]) | (simp only [c16b1, Bool.not_true, Bool.not_false]) | (simp only [c16b0, Bool.not_true, Bool.not_false]) | skip)
      obtain rfl := Option.some.inj H
      go_wp2
      go_ret
      exact ⟨by first | rfl | (simp [errW_none, errW_some] <;> rfl) | (simp [*, errW_none, errW_some] <;> rfl), by repeat (first | (with_reducible first | exact HB.out | apply below_alloc | apply pw_below_drewN | apply below_drew1 | refine below_set ?_ GE101.out | refine below_set ?_ GE102.out) | exact HB.out)⟩
    · rw [if_neg c16] at H
      have c16b0 : decide (t104 < 0) = false := decide_eq_false c16
      clear c16
      (first | rw [c16b0] | (simp only [i64_w, i32_w]; rw [c16b0]) | (simp only [c16b2, Bool.not_true, Bool.not_false]) | (simp only [c16b1, Bool.not_true, Bool.not_false]) | (simp only [c16b0, Bool.not_true, Bool.not_false]) | skip)
      replace H := Option.bind_eq_some_iff.mp H
      obtain ⟨⟨t105, t106⟩, A170, H⟩ := H
      replace H : ((laws_toFeature.f k a1_0 l1_1).bind fun bt109 => ((spec_FeatureDistance.f k t105 t106 bt109.1 bt109.2).bind fun bt113 => ((laws_toFeature.f k a0_0 l0_1).bind fun bt115 => ((laws_toFeature.f k a1_0 l1_1).bind fun bt120 => ((impl_FeatureDistance.f k bt115.1 bt115.2 bt120.1 bt120.2).bind fun bt125 => (if bt125.1 = bt113.1 then (laws_FnExactFeatureDistance.j0 k (bt125.2 != bt113.2) a0_0 l0_1 a1_0 l1_1 bt115.1 bt115.2 bt120.1 bt120.2) else (laws_FnExactFeatureDistance.j0 k true a0_0 l0_1 a1_0 l1_1 bt115.1 bt115.2 bt120.1 bt120.2))))))) = some r := H
      have A17 := Aside0.mk A170
      clear A170
      replace H := Option.bind_eq_some_iff.mp H
      obtain ⟨⟨t109, t110⟩, A180, H⟩ := H
      replace H : ((spec_FeatureDistance.f k t105 t106 t109 t110).bind fun bt113 => ((laws_toFeature.f k a0_0 l0_1).bind fun bt115 => ((laws_toFeature.f k a1_0 l1_1).bind fun bt120 => ((impl_FeatureDistance.f k bt115.1 bt115.2 bt120.1 bt120.2).bind fun bt125 => (if bt125.1 = bt113.1 then (laws_FnExactFeatureDistance.j0 k (bt125.2 != bt113.2) a0_0 l0_1 a1_0 l1_1 bt115.1 bt115.2 bt120.1 bt120.2) else (laws_FnExactFeatureDistance.j0 k true a0_0 l0_1 a1_0 l1_1 bt115.1 bt115.2 bt120.1 bt120.2)))))) = some r := H
      have A18 := Aside0.mk A180
      clear A180
      replace H := Option.bind_eq_some_iff.mp H
      obtain ⟨⟨t113, t114⟩, A190, H⟩ := H
      replace H : ((laws_toFeature.f k a0_0 l0_1).bind fun bt115 => ((laws_toFeature.f k a1_0 l1_1).bind fun bt120 => ((impl_FeatureDistance.f k bt115.1 bt115.2 bt120.1 bt120.2).bind fun bt125 => (if bt125.1 = t113 then (laws_FnExactFeatureDistance.j0 k (bt125.2 != t114) a0_0 l0_1 a1_0 l1_1 bt115.1 bt115.2 bt120.1 bt120.2) else (laws_FnExactFeatureDistance.j0 k true a0_0 l0_1 a1_0 l1_1 bt115.1 bt115.2 bt120.1 bt120.2))))) = some r := H
      have A19 := Aside0.mk A190
      clear A190
      replace H := Option.bind_eq_some_iff.mp H
      obtain ⟨⟨t115, t116⟩, A200, H⟩ := H
      replace H : ((laws_toFeature.f k a1_0 l1_1).bind fun bt120 => ((impl_FeatureDistance.f k t115 t116 bt120.1 bt120.2).bind fun bt125 => (if bt125.1 = t113 then (laws_FnExactFeatureDistance.j0 k (bt125.2 != t114) a0_0 l0_1 a1_0 l1_1 t115 t116 bt120.1 bt120.2) else (laws_FnExactFeatureDistance.j0 k true a0_0 l0_1 a1_0 l1_1 t115 t116 bt120.1 bt120.2)))) = some r := H
      have A20 := Aside0.mk A200
      clear A200
      replace H := Option.bind_eq_some_iff.mp H
      obtain ⟨⟨t120, t121⟩, A210, H⟩ := H
      replace H : ((impl_FeatureDistance.f k t115 t116 t120 t121).bind fun bt125 => (if bt125.1 = t113 then (laws_FnExactFeatureDistance.j0 k (bt125.2 != t114) a0_0 l0_1 a1_0 l1_1 t115 t116 t120 t121) else (laws_FnExactFeatureDistance.j0 k true a0_0 l0_1 a1_0 l1_1 t115 t116 t120 t121))) = some r := H
      have A21 := Aside0.mk A210
      clear A210
      replace H := Option.bind_eq_some_iff.mp H
      obtain ⟨⟨t125, t126⟩, A220, H⟩ := H
      replace H : (if t125 = t113 then (laws_FnExactFeatureDistance.j0 k (t126 != t114) a0_0 l0_1 a1_0 l1_1 t115 t116 t120 t121) else (laws_FnExactFeatureDistance.j0 k true a0_0 l0_1 a1_0 l1_1 t115 t116 t120 t121)) = some r := H
      have A22 := Aside0.mk A220
      clear A220
      have HC23 := Aside0.mk H
      clear H
      try go_wp2
      (try (rw [drewN_self w15]; generalize hq_ : World.drewN w15 _ = w15; have n0_ : Aside0 (w15.heap[gb101]? = some (.cells #[.string a0_0, .slice A0_1 l0_1.length c0_1] 24 (0, 0))) := ⟨by rw [← hq_]; exact (by (with_reducible repeat (first | refine blk_drewN ?_ _ | refine blk_drew ?_ | refine blk_alloc ?_ _)); exact BK101.out)⟩; have n1_ : Aside0 (w15.heap[gb102]? = some (.cells #[.string a1_0, .slice A1_1 l1_1.length c1_1] 24 (0, 0))) := ⟨by rw [← hq_]; exact (by (with_reducible repeat (first | refine blk_drewN ?_ _ | refine blk_drew ?_ | refine blk_alloc ?_ _)); exact BK102.out)⟩; have n2_ : Aside0 (Below w.heap.size w w15) := ⟨by rw [← hq_]; exact (by repeat (first | (with_reducible first | exact HB.out | apply below_alloc | apply pw_below_drewN | apply below_drew1 | refine below_set ?_ GE101.out | refine below_set ?_ GE102.out) | exact HB.out))⟩; clear BK101 BK102 HB hq_; have BK101 := n0_; have BK102 := n1_; have HB := n2_; clear n0_ n1_ n2_))
      have n0_ := Aside0.mk (blk_drew BK101.out)
      have n1_ := Aside0.mk (blk_drew BK102.out)
      have n2_ := Aside0.mk (below_drew1 HB.out)
      clear BK101
      clear BK102
      clear HB
      have BK101 := n0_
      have BK102 := n1_
      have HB := n2_
      clear n0_ n1_ n2_
      refine start_ (n := 10) (S := fun w' => w'.cell? ⟨gb101, 0, none⟩ = some (.string a0_0) ∧ w'.cell? ⟨gb101, 1, none⟩ = some (.slice A0_1 l0_1.length c0_1) ∧ w'.cell? ⟨gb102, 0, none⟩ = some (.string a1_0) ∧ w'.cell? ⟨gb102, 1, none⟩ = some (.slice A1_1 l1_1.length c1_1)) (ds := []) #[false, false, false, false, false, false, false, false, false, false] (by kernel_rfl) rfl rfl ⟨(blk_cell BK101.out 0).trans rfl, (blk_cell BK101.out 1).trans rfl, (blk_cell BK102.out 0).trans rfl, (blk_cell BK102.out 1).trans rfl⟩ (fun hHeld => ?_); refine with_tabW laws_FnExactFeatureDistance.tab8 laws_FnExactFeatureDistance.bits8 (fun HT_ HW_ => ?_)
      generalize w15.drew = w24 at BK101 BK102 HB hHeld ⊢
      refine take_ (i := 0) (N := some 23) (v := ?_) (a' := ?_) #[true, false, false, false, false, false, false, false, false, false] rfl rfl (take_ofW HT_.out HW_.out (by kernel_rfl)) (fun _ _ _ h => h) (Or.inl ⟨by rfl, ?_⟩) hHeld ?_ ?_
      rotate_left
      · rintro w' ⟨s0, s1, s2, s3⟩
        go_simp
        with_reducible rfl
      rotate_left
      · simp only [Act.put, List.setIfInBounds_toArray, List.set_cons_zero, List.set_cons_succ, i64_w, i32_w]
        rfl
      refine take_ (i := 2) (N := some 25) (v := ?_) (a' := ?_) #[true, false, true, false, false, false, false, false, false, false] rfl rfl (take_ofW HT_.out HW_.out (by kernel_rfl)) (fun _ _ _ h => h) (Or.inl ⟨by rfl, ?_⟩) hHeld ?_ ?_
      rotate_left
      · rintro w' ⟨s0, s1, s2, s3⟩
        go_simp
        with_reducible rfl
      rotate_left
      · simp only [Act.put, List.setIfInBounds_toArray, List.set_cons_zero, List.set_cons_succ, i64_w, i32_w]
        rfl
      refine one_ (i := 1) (N := some 24) #[true, true, true, false, false, false, false, false, false, false] rfl rfl (one_of HT_.out (by kernel_rfl)) (by decide) (fun K hK => ?_)
      refine goes_ Try.func14 (by kernel_rfl) rfl #[.agg #[.string a0_0, .slice A0_1 l0_1.length c0_1]] (by rfl) rfl rfl (by (try simp only [List.map_toArray, List.map_cons, List.map_nil]); first | done | rfl | (simp only [List.length_drop, List.length_take]; rfl)) ?_
      with_reducible refine (laws_toFeature.calls k a0_0 _ _ l0_1 t105 t106 _ ?side1 ?side2 A17.out).mono ?_
      (case side1 => repeat (first | exact (Kd.C_below HR0_1.out HB.out) | (with_reducible refine Kd.C_alloc ?_ _) | (with_reducible refine Kd.C_drewN ?_ _) | (with_reducible refine Kd.C_drew ?_)))
      (case side2 => exact HC0_1.out)
      rintro e w25 ⟨v107, rfl, ho0, hb⟩
      refine ⟨_, rfl, ?_⟩
      have n0_ := Aside0.mk (Kd.R_lower ho0 (below_size (by repeat (first | (with_reducible first | exact HB.out | apply below_alloc | apply pw_below_drewN | apply below_drew1 | refine below_set ?_ GE101.out | refine below_set ?_ GE102.out) | exact HB.out))))
      have n1_ := Aside0.mk (blk_below (g := gb101) (o := .cells #[.string a0_0, .slice A0_1 l0_1.length c0_1] 24 (0, 0)) (by (with_reducible repeat (first | refine blk_drewN ?_ _ | refine blk_drew ?_ | refine blk_alloc ?_ _)); exact BK101.out) hb)
      have n2_ := Aside0.mk (blk_below (g := gb102) (o := .cells #[.string a1_0, .slice A1_1 l1_1.length c1_1] 24 (0, 0)) (by (with_reducible repeat (first | refine blk_drewN ?_ _ | refine blk_drew ?_ | refine blk_alloc ?_ _)); exact BK102.out) hb)
      have n3_ := Aside0.mk (below_step (by repeat (first | (with_reducible first | exact HB.out | apply below_alloc | apply pw_below_drewN | apply below_drew1 | refine below_set ?_ GE101.out | refine below_set ?_ GE102.out) | exact HB.out)) hb)
      clear BK101
      clear BK102
      clear HB
      have HO108 := n0_
      have BK101 := n1_
      have BK102 := n2_
      have HB := n3_
      clear n0_ n1_ n2_ n3_
      (try clear hb)
      (try clear hb2)
      (try clear hk)
      (try clear hi)
      (try clear ho0)
      refine hK.out _ _ ⟨(blk_cell BK101.out 0).trans rfl, (blk_cell BK101.out 1).trans rfl, (blk_cell BK102.out 0).trans rfl, (blk_cell BK102.out 1).trans rfl⟩ (fun hHeld => ?_)
      clear hK K
      refine norm_ (a' := ?_) ?_ ?_
      rotate_left
      · show Act.put _ (some 24) _ = _
        simp only [Act.put, List.setIfInBounds_toArray, List.set_cons_zero, List.set_cons_succ, i64_w, i32_w]
        rfl
      refine one_ (i := 3) (N := some 26) #[true, true, true, true, false, false, false, false, false, false] rfl rfl (one_of HT_.out (by kernel_rfl)) (by decide) (fun K hK => ?_)
      refine goes_ Try.func14 (by kernel_rfl) rfl #[.agg #[.string a1_0, .slice A1_1 l1_1.length c1_1]] (by rfl) rfl rfl (by (try simp only [List.map_toArray, List.map_cons, List.map_nil]); first | done | rfl | (simp only [List.length_drop, List.length_take]; rfl)) ?_
      with_reducible refine (laws_toFeature.calls k a1_0 _ _ l1_1 t109 t110 _ ?side1 ?side2 A18.out).mono ?_
      (case side1 => repeat (first | exact (Kd.C_below HR1_1.out HB.out) | (with_reducible refine Kd.C_alloc ?_ _) | (with_reducible refine Kd.C_drewN ?_ _) | (with_reducible refine Kd.C_drew ?_)))
      (case side2 => exact HC1_1.out)
      rintro e w26 ⟨v111, rfl, ho0, hb⟩
      refine ⟨_, rfl, ?_⟩
      have n0_ := Aside0.mk (Kd.R_elder' (by (with_reducible repeat (first | apply Kd.R_alloc | apply Kd.R_drewN | apply Kd.R_drew)); exact HO108.out) (Kd.R_base ho0) hb)
      have n1_ := Aside0.mk (Kd.R_lower (Kd.R_new' ho0 (Kd.R_lt (by (with_reducible repeat (first | apply Kd.R_alloc | apply Kd.R_drewN | apply Kd.R_drew)); exact HO108.out))) (below_size (by repeat (first | (with_reducible first | exact HB.out | apply below_alloc | apply pw_below_drewN | apply below_drew1 | refine below_set ?_ GE101.out | refine below_set ?_ GE102.out) | exact HB.out))))
      have n2_ := Aside0.mk (blk_below (g := gb101) (o := .cells #[.string a0_0, .slice A0_1 l0_1.length c0_1] 24 (0, 0)) (by (with_reducible repeat (first | refine blk_drewN ?_ _ | refine blk_drew ?_ | refine blk_alloc ?_ _)); exact BK101.out) hb)
      have n3_ := Aside0.mk (blk_below (g := gb102) (o := .cells #[.string a1_0, .slice A1_1 l1_1.length c1_1] 24 (0, 0)) (by (with_reducible repeat (first | refine blk_drewN ?_ _ | refine blk_drew ?_ | refine blk_alloc ?_ _)); exact BK102.out) hb)
      have n4_ := Aside0.mk (below_step (by repeat (first | (with_reducible first | exact HB.out | apply below_alloc | apply pw_below_drewN | apply below_drew1 | refine below_set ?_ GE101.out | refine below_set ?_ GE102.out) | exact HB.out)) hb)
      clear HO108
      clear BK101
      clear BK102
      clear HB
      have HO108 := n0_
      have HO112 := n1_
      have BK101 := n2_
      have BK102 := n3_
      have HB := n4_
      clear n0_ n1_ n2_ n3_ n4_
      (try clear hb)
      (try clear hb2)
      (try clear hk)
      (try clear hi)
      (try clear ho0)
      obtain ⟨Ao27, co27, eo27⟩ := Kd.R_slice HO108.out
      (first | subst eo27 | (injection eo27 with f1_ f2_ f3_; have f4_ := f1_.symm; have f5_ := f3_.symm; clear f1_ f2_ f3_; subst f4_; subst f5_))
      obtain ⟨Ao28, co28, eo28⟩ := Kd.R_slice HO112.out
      (first | subst eo28 | (injection eo28 with f1_ f2_ f3_; have f4_ := f1_.symm; have f5_ := f3_.symm; clear f1_ f2_ f3_; subst f4_; subst f5_))
      refine hK.out _ _ ⟨(blk_cell BK101.out 0).trans rfl, (blk_cell BK101.out 1).trans rfl, (blk_cell BK102.out 0).trans rfl, (blk_cell BK102.out 1).trans rfl⟩ (fun hHeld => ?_)
      clear hK K
      refine norm_ (a' := ?_) ?_ ?_
      rotate_left
      · show Act.put _ (some 26) _ = _
        simp only [Act.put, List.setIfInBounds_toArray, List.set_cons_zero, List.set_cons_succ, i64_w, i32_w]
        rfl
      refine one_ (i := 4) (N := some 27) #[true, true, true, true, true, false, false, false, false, false] rfl rfl (one_of HT_.out (by kernel_rfl)) (by decide) (fun K hK => ?_)
      refine goes_ Try.func13 (by kernel_rfl) rfl #[.agg #[.string t105, .slice Ao27 t106.length co27], .agg #[.string t109, .slice Ao28 t110.length co28]] (by rfl) rfl rfl (by (try simp only [List.map_toArray, List.map_cons, List.map_nil]); first | done | rfl | (simp only [List.length_drop, List.length_take]; rfl)) ?_
      with_reducible refine (spec_FeatureDistance.calls k t105 _ _ t106 t109 _ _ t110 t113 t114 _ ?side1 ?side2 ?side3 ?side4 A19.out).mono ?_
      (case side1 => repeat (first | exact (Kd.R_reads' HO108.out).2.2 | (with_reducible refine Kd.C_alloc ?_ _) | (with_reducible refine Kd.C_drewN ?_ _) | (with_reducible refine Kd.C_drew ?_)))
      (case side2 => exact (Kd.R_reads' HO108.out).2.1)
      (case side3 => repeat (first | exact (Kd.R_reads' HO112.out).2.2 | (with_reducible refine Kd.C_alloc ?_ _) | (with_reducible refine Kd.C_drewN ?_ _) | (with_reducible refine Kd.C_drew ?_)))
      (case side4 => exact (Kd.R_reads' HO112.out).2.1)
      rintro e w29 ⟨rfl, hb⟩
      refine ⟨_, rfl, ?_⟩
      have n0_ := Aside0.mk (Kd.R_below (by (with_reducible repeat (first | apply Kd.R_alloc | apply Kd.R_drewN | apply Kd.R_drew)); exact HO108.out) hb)
      have n1_ := Aside0.mk (Kd.R_below (by (with_reducible repeat (first | apply Kd.R_alloc | apply Kd.R_drewN | apply Kd.R_drew)); exact HO112.out) hb)
      have n2_ := Aside0.mk (blk_below (g := gb101) (o := .cells #[.string a0_0, .slice A0_1 l0_1.length c0_1] 24 (0, 0)) (by (with_reducible repeat (first | refine blk_drewN ?_ _ | refine blk_drew ?_ | refine blk_alloc ?_ _)); exact BK101.out) hb)
      have n3_ := Aside0.mk (blk_below (g := gb102) (o := .cells #[.string a1_0, .slice A1_1 l1_1.length c1_1] 24 (0, 0)) (by (with_reducible repeat (first | refine blk_drewN ?_ _ | refine blk_drew ?_ | refine blk_alloc ?_ _)); exact BK102.out) hb)
      have n4_ := Aside0.mk (below_step (by repeat (first | (with_reducible first | exact HB.out | apply below_alloc | apply pw_below_drewN | apply below_drew1 | refine below_set ?_ GE101.out | refine below_set ?_ GE102.out) | exact HB.out)) hb)
      clear HO108
      clear HO112
      clear BK101
      clear BK102
      clear HB
      have HO108 := n0_
      have HO112 := n1_
      have BK101 := n2_
      have BK102 := n3_
      have HB := n4_
      clear n0_ n1_ n2_ n3_ n4_
      (try clear hb)
      (try clear hb2)
      (try clear hk)
      (try clear hi)
      refine hK.out _ _ ⟨(blk_cell BK101.out 0).trans rfl, (blk_cell BK101.out 1).trans rfl, (blk_cell BK102.out 0).trans rfl, (blk_cell BK102.out 1).trans rfl⟩ (fun hHeld => ?_)
      clear hK K
      refine norm_ (a' := ?_) ?_ ?_
      rotate_left
      · show Act.put _ (some 27) _ = _
        simp only [Act.put, List.setIfInBounds_toArray, List.set_cons_zero, List.set_cons_succ, i64_w, i32_w]
        rfl
      refine pure_ (i := 5) (N := some 22) (v := ?_) (a' := ?_) #[true, true, true, true, true, true, false, false, false, false] rfl rfl (any_of HT_.out (by kernel_rfl)) (fun _ _ _ h => h) (Or.inl ⟨by rfl, ?_⟩) ?_ ?_
      rotate_left
      · intro w'
        go_simp
        with_reducible rfl
      rotate_left
      · simp only [Act.put, List.setIfInBounds_toArray, List.set_cons_zero, List.set_cons_succ, i64_w, i32_w]
        rfl
      refine pure_ (i := 6) (N := some 28) (v := ?_) (a' := ?_) #[true, true, true, true, true, true, true, false, false, false] rfl rfl (any_of HT_.out (by kernel_rfl)) (fun _ _ _ h => h) (Or.inl ⟨by rfl, ?_⟩) ?_ ?_
      rotate_left
      · intro w'
        go_simp
        with_reducible rfl
      rotate_left
      · simp only [Act.put, List.setIfInBounds_toArray, List.set_cons_zero, List.set_cons_succ, i64_w, i32_w]
        rfl
      refine pure_ (i := 7) (N := some 29) (v := ?_) (a' := ?_) #[true, true, true, true, true, true, true, true, false, false] rfl rfl (any_of HT_.out (by kernel_rfl)) (fun _ _ _ h => h) (Or.inl ⟨by rfl, ?_⟩) ?_ ?_
      rotate_left
      · intro w'
        go_simp
        with_reducible rfl
      rotate_left
      · simp only [Act.put, List.setIfInBounds_toArray, List.set_cons_zero, List.set_cons_succ, i64_w, i32_w]
        rfl
      refine pure_ (i := 8) (N := some 6) (v := ?_) (a' := ?_) #[true, true, true, true, true, true, true, true, true, false] rfl rfl (any_of HT_.out (by kernel_rfl)) (fun _ _ _ h => h) (Or.inl ⟨by rfl, ?_⟩) ?_ ?_
      rotate_left
      · intro w'
        go_simp
        with_reducible rfl
      rotate_left
      · simp only [Act.put, List.setIfInBounds_toArray, List.set_cons_zero, List.set_cons_succ, i64_w, i32_w]
        rfl
      refine pure_ (i := 9) (N := some 7) (v := ?_) (a' := ?_) #[true, true, true, true, true, true, true, true, true, true] rfl rfl (any_of HT_.out (by kernel_rfl)) (fun _ _ _ h => h) (Or.inl ⟨by rfl, ?_⟩) ?_ ?_
      rotate_left
      · intro w'
        go_simp
        with_reducible rfl
      rotate_left
      · simp only [Act.put, List.setIfInBounds_toArray, List.set_cons_zero, List.set_cons_succ, i64_w, i32_w]
        rfl
      refine done_ (done_of HT_.out (by kernel_rfl)) ?_
      have hnb30 := NB101_102.out
      have hnc30 := NB102_101.out
      have hcz31_0 : w29.cell? ⟨gb101, 0, none⟩ = some (.string a0_0) := (blk_cell BK101.out 0).trans rfl
      have hcz31_1 : w29.cell? ⟨gb101, 1, none⟩ = some (.slice A0_1 l0_1.length c0_1) := (blk_cell BK101.out 1).trans rfl
      have hfz31_0 := blk_frozen BK101.out 0
      have hfz31_1 := blk_frozen BK101.out 1
      go_upto_region 12 with (first | ((with_reducible refine gate_callee (f := 14) rfl ?_); refine goesL_ (some 31) rfl rfl Try.func14 (by kernel_rfl) rfl #[.agg #[.string a0_0, .slice A0_1 l0_1.length c0_1]] rfl (by (try simp only [List.map_toArray, List.map_cons, List.map_nil]); first | done | rfl | (simp only [List.length_drop, List.length_take]; rfl)) ?_; (with_reducible refine (laws_toFeature.calls k a0_0 _ _ l0_1 t115 t116 _ ?side1 ?side2 A20.out).mono ?_); (case side1 => repeat (first | exact (Kd.C_below HR0_1.out HB.out) | (with_reducible refine Kd.C_alloc ?_ _) | (with_reducible refine Kd.C_drewN ?_ _) | (with_reducible refine Kd.C_drew ?_))); (case side2 => exact HC0_1.out); rintro e w32 ⟨v117, rfl, ho0, hb⟩; refine ⟨_, rfl, ?_⟩; have n0_ := Aside0.mk (Kd.R_elder' (by (with_reducible repeat (first | apply Kd.R_alloc | apply Kd.R_drewN | apply Kd.R_drew)); exact HO108.out) (Kd.R_base ho0) hb); have n1_ := Aside0.mk (Kd.R_elder' (by (with_reducible repeat (first | apply Kd.R_alloc | apply Kd.R_drewN | apply Kd.R_drew)); exact HO112.out) (Kd.R_base ho0) hb); have n2_ := Aside0.mk (Kd.R_lower (Kd.R_new' (Kd.R_new' ho0 (Kd.R_lt (by (with_reducible repeat (first | apply Kd.R_alloc | apply Kd.R_drewN | apply Kd.R_drew)); exact HO108.out))) (Kd.R_lt (by (with_reducible repeat (first | apply Kd.R_alloc | apply Kd.R_drewN | apply Kd.R_drew)); exact HO112.out))) (below_size (by repeat (first | (with_reducible first | exact HB.out | apply below_alloc | apply pw_below_drewN | apply below_drew1 | refine below_set ?_ GE101.out | refine below_set ?_ GE102.out) | exact HB.out)))); have n3_ := Aside0.mk (blk_below (g := gb101) (o := .cells #[.string a0_0, .slice A0_1 l0_1.length c0_1] 24 (0, 0)) (by (with_reducible repeat (first | refine blk_drewN ?_ _ | refine blk_drew ?_ | refine blk_alloc ?_ _)); exact BK101.out) hb); have n4_ := Aside0.mk (blk_below (g := gb102) (o := .cells #[.string a1_0, .slice A1_1 l1_1.length c1_1] 24 (0, 0)) (by (with_reducible repeat (first | refine blk_drewN ?_ _ | refine blk_drew ?_ | refine blk_alloc ?_ _)); exact BK102.out) hb); have n5_ := Aside0.mk (below_step (by repeat (first | (with_reducible first | exact HB.out | apply below_alloc | apply pw_below_drewN | apply below_drew1 | refine below_set ?_ GE101.out | refine below_set ?_ GE102.out) | exact HB.out)) hb); clear HO108; clear HO112; clear BK101; clear BK102; clear HB; have HO108 := n0_; have HO112 := n1_; have HO118 := n2_; have BK101 := n3_; have BK102 := n4_; have HB := n5_; clear n0_ n1_ n2_ n3_ n4_ n5_; (try clear hb); (try clear hb2); (try clear hk); (try clear hi); (try clear ho0)) | ((with_reducible refine gate_dst (N := 8) rfl ?_); refine box_event ?hg (N := 8) ?hd (cs := #[.string (⟨#[]⟩ : ByteArray), .slice none 0 0]) (t := 28) ?hr ?_; (case hd => rfl); (case hg => rfl); (case hr => first | (go_simp; done) | (go_simp; rfl)); intro gb119 hg w33 hbox hb; have n0_ := Aside0.mk (Kd.R_below (by (with_reducible repeat (first | apply Kd.R_alloc | apply Kd.R_drewN | apply Kd.R_drew)); exact HO108.out) hb); have n1_ := Aside0.mk (Kd.R_below (by (with_reducible repeat (first | apply Kd.R_alloc | apply Kd.R_drewN | apply Kd.R_drew)); exact HO112.out) hb); have n2_ := Aside0.mk (Kd.R_below (by (with_reducible repeat (first | apply Kd.R_alloc | apply Kd.R_drewN | apply Kd.R_drew)); exact HO118.out) hb); have n3_ := Aside0.mk (blk_below (g := gb101) (o := .cells #[.string a0_0, .slice A0_1 l0_1.length c0_1] 24 (0, 0)) (by (with_reducible repeat (first | refine blk_drewN ?_ _ | refine blk_drew ?_ | refine blk_alloc ?_ _)); exact BK101.out) hb); have n4_ := Aside0.mk (blk_below (g := gb102) (o := .cells #[.string a1_0, .slice A1_1 l1_1.length c1_1] 24 (0, 0)) (by (with_reducible repeat (first | refine blk_drewN ?_ _ | refine blk_drew ?_ | refine blk_alloc ?_ _)); exact BK102.out) hb); have n5_ := Aside0.mk (below_step (by repeat (first | (with_reducible first | exact HB.out | apply below_alloc | apply pw_below_drewN | apply below_drew1 | refine below_set ?_ GE101.out | refine below_set ?_ GE102.out) | exact HB.out)) hb); have n6_ := Aside0.mk (hbox); have n7_ := Aside0.mk ((by rw [hg]; exact (below_size (by repeat (first | (with_reducible first | exact HB.out | apply below_alloc | apply pw_below_drewN | apply below_drew1 | refine below_set ?_ GE101.out | refine below_set ?_ GE102.out) | exact HB.out))) : w.heap.size ≤ gb119)); have n8_ := Aside0.mk ((by rw [hg]; exact (below_size (by repeat (first | (with_reducible first | exact HB.out | apply below_alloc | apply pw_below_drewN | apply below_drew1 | refine below_set ?_ GE101.out | refine below_set ?_ GE102.out) | exact HB.out))) : w.heap.size ≤ gb119)); have n9_ := Aside0.mk ((by rw [hg]; exact Nat.ne_of_lt (blk_lt (g := gb101) (o := .cells #[.string a0_0, .slice A0_1 l0_1.length c0_1] 24 (0, 0)) (by (with_reducible repeat (first | refine blk_drewN ?_ _ | refine blk_drew ?_ | refine blk_alloc ?_ _)); exact BK101.out)) : gb101 ≠ gb119)); have n10_ := Aside0.mk ((by rw [hg]; exact Nat.ne_of_gt (blk_lt (g := gb101) (o := .cells #[.string a0_0, .slice A0_1 l0_1.length c0_1] 24 (0, 0)) (by (with_reducible repeat (first | refine blk_drewN ?_ _ | refine blk_drew ?_ | refine blk_alloc ?_ _)); exact BK101.out)) : gb119 ≠ gb101)); have n11_ := Aside0.mk ((by rw [hg]; exact Nat.ne_of_lt (blk_lt (g := gb102) (o := .cells #[.string a1_0, .slice A1_1 l1_1.length c1_1] 24 (0, 0)) (by (with_reducible repeat (first | refine blk_drewN ?_ _ | refine blk_drew ?_ | refine blk_alloc ?_ _)); exact BK102.out)) : gb102 ≠ gb119)); have n12_ := Aside0.mk ((by rw [hg]; exact Nat.ne_of_gt (blk_lt (g := gb102) (o := .cells #[.string a1_0, .slice A1_1 l1_1.length c1_1] 24 (0, 0)) (by (with_reducible repeat (first | refine blk_drewN ?_ _ | refine blk_drew ?_ | refine blk_alloc ?_ _)); exact BK102.out)) : gb119 ≠ gb102)); clear HO108; clear HO112; clear HO118; clear BK101; clear BK102; clear HB; have HO108 := n0_; have HO112 := n1_; have HO118 := n2_; have BK101 := n3_; have BK102 := n4_; have HB := n5_; have BK119 := n6_; have GW119 := n7_; have GE119 := n8_; have NB101_119 := n9_; have NB119_101 := n10_; have NB102_119 := n11_; have NB119_102 := n12_; clear n0_ n1_ n2_ n3_ n4_ n5_ n6_ n7_ n8_ n9_ n10_ n11_ n12_; clear hb hbox hg; have hnb34 := NB119_101.out; have hnc34 := NB101_119.out; have hnb35 := NB119_102.out; have hnc35 := NB102_119.out; have hcz36_0 : w33.cell? ⟨gb119, 0, none⟩ = some (.string (⟨#[]⟩ : ByteArray)) := (blk_cell BK119.out 0).trans rfl; have hcz36_1 : w33.cell? ⟨gb119, 1, none⟩ = some (.slice none 0 0) := (blk_cell BK119.out 1).trans rfl; have hfz36_0 := blk_frozen BK119.out 0; have hfz36_1 := blk_frozen BK119.out 1; obtain ⟨Ao37, co37, eo37⟩ := Kd.R_slice HO118.out; subst eo37; have hcz38_0 : w33.cell? ⟨gb102, 0, none⟩ = some (.string a1_0) := (blk_cell BK102.out 0).trans rfl; have hcz38_1 : w33.cell? ⟨gb102, 1, none⟩ = some (.slice A1_1 l1_1.length c1_1) := (blk_cell BK102.out 1).trans rfl; have hfz38_0 := blk_frozen BK102.out 0; have hfz38_1 := blk_frozen BK102.out 1) | ((with_reducible refine gate_callee (f := 14) rfl ?_); refine goesL_ (some 33) rfl rfl Try.func14 (by kernel_rfl) rfl #[.agg #[.string a1_0, .slice A1_1 l1_1.length c1_1]] rfl (by (try simp only [List.map_toArray, List.map_cons, List.map_nil]); first | done | rfl | (simp only [List.length_drop, List.length_take]; rfl)) ?_; (with_reducible refine (laws_toFeature.calls k a1_0 _ _ l1_1 t120 t121 _ ?side1 ?side2 A21.out).mono ?_); (case side1 => exact Kd.C_below HR1_1.out (by repeat (first | (with_reducible first | exact HB.out | apply below_alloc | apply pw_below_drewN | apply below_drew1 | refine below_set ?_ GE101.out | refine below_set ?_ GE102.out | refine below_set ?_ GE119.out) | exact HB.out))); (case side2 => exact HC1_1.out); rintro e w39 ⟨v122, rfl, ho0, hb⟩; refine ⟨_, rfl, ?_⟩; have n0_ := Aside0.mk (Kd.R_elder' (by (with_reducible repeat (first | apply Kd.R_alloc | apply Kd.R_drewN | apply Kd.R_drew)); exact (Kd.R_mono (Kd.R_far (p := ⟨gb119, 1, none⟩) (Kd.R_far (p := ⟨gb119, 0, none⟩) (Kd.R_types HO108.out BK119.out (by decide)) (fun _ hk => hk.2) (.string t115)) (fun _ hk => hk.2) (.slice Ao37 t116.length co37)) (fun _ h_ => h_.1))) (Kd.R_base ho0) hb); have n1_ := Aside0.mk (Kd.R_elder' (by (with_reducible repeat (first | apply Kd.R_alloc | apply Kd.R_drewN | apply Kd.R_drew)); exact (Kd.R_mono (Kd.R_far (p := ⟨gb119, 1, none⟩) (Kd.R_far (p := ⟨gb119, 0, none⟩) (Kd.R_types HO112.out BK119.out (by decide)) (fun _ hk => hk.2) (.string t115)) (fun _ hk => hk.2) (.slice Ao37 t116.length co37)) (fun _ h_ => h_.1))) (Kd.R_base ho0) hb); have n2_ := Aside0.mk (Kd.R_elder' (by (with_reducible repeat (first | apply Kd.R_alloc | apply Kd.R_drewN | apply Kd.R_drew)); exact (Kd.R_mono (Kd.R_far (p := ⟨gb119, 1, none⟩) (Kd.R_far (p := ⟨gb119, 0, none⟩) (Kd.R_types HO118.out BK119.out (by decide)) (fun _ hk => hk.2) (.string t115)) (fun _ hk => hk.2) (.slice Ao37 t116.length co37)) (fun _ h_ => h_.1))) (Kd.R_base ho0) hb); have n3_ := Aside0.mk (Kd.R_lower (Kd.R_new' (Kd.R_new' (Kd.R_new' ho0 (Kd.R_lt (by (with_reducible repeat (first | apply Kd.R_alloc | apply Kd.R_drewN | apply Kd.R_drew)); exact (Kd.R_mono (Kd.R_far (p := ⟨gb119, 1, none⟩) (Kd.R_far (p := ⟨gb119, 0, none⟩) (Kd.R_types HO108.out BK119.out (by decide)) (fun _ hk => hk.2) (.string t115)) (fun _ hk => hk.2) (.slice Ao37 t116.length co37)) (fun _ h_ => h_.1))))) (Kd.R_lt (by (with_reducible repeat (first | apply Kd.R_alloc | apply Kd.R_drewN | apply Kd.R_drew)); exact (Kd.R_mono (Kd.R_far (p := ⟨gb119, 1, none⟩) (Kd.R_far (p := ⟨gb119, 0, none⟩) (Kd.R_types HO112.out BK119.out (by decide)) (fun _ hk => hk.2) (.string t115)) (fun _ hk => hk.2) (.slice Ao37 t116.length co37)) (fun _ h_ => h_.1))))) (Kd.R_lt (by (with_reducible repeat (first | apply Kd.R_alloc | apply Kd.R_drewN | apply Kd.R_drew)); exact (Kd.R_mono (Kd.R_far (p := ⟨gb119, 1, none⟩) (Kd.R_far (p := ⟨gb119, 0, none⟩) (Kd.R_types HO118.out BK119.out (by decide)) (fun _ hk => hk.2) (.string t115)) (fun _ hk => hk.2) (.slice Ao37 t116.length co37)) (fun _ h_ => h_.1))))) (below_size (by repeat (first | (with_reducible first | exact HB.out | apply below_alloc | apply pw_below_drewN | apply below_drew1 | refine below_set ?_ GE101.out | refine below_set ?_ GE102.out | refine below_set ?_ GE119.out) | exact HB.out)))); have n4_ := Aside0.mk (blk_below (g := gb101) (o := .cells #[.string a0_0, .slice A0_1 l0_1.length c0_1] 24 (0, 0)) (by (with_reducible repeat (first | refine blk_drewN ?_ _ | refine blk_drew ?_ | refine blk_alloc ?_ _)); refine blk_far ?_ NB101_119.out _; (with_reducible repeat (first | refine blk_drewN ?_ _ | refine blk_drew ?_ | refine blk_alloc ?_ _)); refine blk_far ?_ NB101_119.out _; (with_reducible repeat (first | refine blk_drewN ?_ _ | refine blk_drew ?_ | refine blk_alloc ?_ _)); exact BK101.out) hb); have n5_ := Aside0.mk (blk_below (g := gb102) (o := .cells #[.string a1_0, .slice A1_1 l1_1.length c1_1] 24 (0, 0)) (by (with_reducible repeat (first | refine blk_drewN ?_ _ | refine blk_drew ?_ | refine blk_alloc ?_ _)); refine blk_far ?_ NB102_119.out _; (with_reducible repeat (first | refine blk_drewN ?_ _ | refine blk_drew ?_ | refine blk_alloc ?_ _)); refine blk_far ?_ NB102_119.out _; (with_reducible repeat (first | refine blk_drewN ?_ _ | refine blk_drew ?_ | refine blk_alloc ?_ _)); exact BK102.out) hb); have n6_ := Aside0.mk (blk_below (g := gb119) (o := .cells #[.string t115, .slice Ao37 t116.length co37] 28 (0, 0)) (by (with_reducible repeat (first | refine blk_drewN ?_ _ | refine blk_drew ?_ | refine blk_alloc ?_ _)); refine blk_put (cs := #[.string t115, .slice none 0 0]) ?_ 1 _ rfl; (with_reducible repeat (first | refine blk_drewN ?_ _ | refine blk_drew ?_ | refine blk_alloc ?_ _)); refine blk_put (cs := #[.string (⟨#[]⟩ : ByteArray), .slice none 0 0]) ?_ 0 _ rfl; (with_reducible repeat (first | refine blk_drewN ?_ _ | refine blk_drew ?_ | refine blk_alloc ?_ _)); exact BK119.out) hb); have n7_ := Aside0.mk (below_step (by repeat (first | (with_reducible first | exact HB.out | apply below_alloc | apply pw_below_drewN | apply below_drew1 | refine below_set ?_ GE101.out | refine below_set ?_ GE102.out | refine below_set ?_ GE119.out) | exact HB.out)) hb); clear HO108; clear HO112; clear HO118; clear BK101; clear BK102; clear BK119; clear HB; have HO108 := n0_; have HO112 := n1_; have HO118 := n2_; have HO123 := n3_; have BK101 := n4_; have BK102 := n5_; have BK119 := n6_; have HB := n7_; clear n0_ n1_ n2_ n3_ n4_ n5_ n6_ n7_; (try clear hb); (try clear hb2); (try clear hk); (try clear hi); (try clear ho0)) | ((with_reducible refine gate_dst (N := 9) rfl ?_); refine box_event ?hg (N := 9) ?hd (cs := #[.string (⟨#[]⟩ : ByteArray), .slice none 0 0]) (t := 28) ?hr ?_; (case hd => rfl); (case hg => rfl); (case hr => first | (go_simp; done) | (go_simp; rfl)); intro gb124 hg w40 hbox hb; have n0_ := Aside0.mk (Kd.R_below (by (with_reducible repeat (first | apply Kd.R_alloc | apply Kd.R_drewN | apply Kd.R_drew)); exact HO108.out) hb); have n1_ := Aside0.mk (Kd.R_below (by (with_reducible repeat (first | apply Kd.R_alloc | apply Kd.R_drewN | apply Kd.R_drew)); exact HO112.out) hb); have n2_ := Aside0.mk (Kd.R_below (by (with_reducible repeat (first | apply Kd.R_alloc | apply Kd.R_drewN | apply Kd.R_drew)); exact HO118.out) hb); have n3_ := Aside0.mk (Kd.R_below (by (with_reducible repeat (first | apply Kd.R_alloc | apply Kd.R_drewN | apply Kd.R_drew)); exact HO123.out) hb); have n4_ := Aside0.mk (blk_below (g := gb101) (o := .cells #[.string a0_0, .slice A0_1 l0_1.length c0_1] 24 (0, 0)) (by (with_reducible repeat (first | refine blk_drewN ?_ _ | refine blk_drew ?_ | refine blk_alloc ?_ _)); exact BK101.out) hb); have n5_ := Aside0.mk (blk_below (g := gb102) (o := .cells #[.string a1_0, .slice A1_1 l1_1.length c1_1] 24 (0, 0)) (by (with_reducible repeat (first | refine blk_drewN ?_ _ | refine blk_drew ?_ | refine blk_alloc ?_ _)); exact BK102.out) hb); have n6_ := Aside0.mk (blk_below (g := gb119) (o := .cells #[.string t115, .slice Ao37 t116.length co37] 28 (0, 0)) (by (with_reducible repeat (first | refine blk_drewN ?_ _ | refine blk_drew ?_ | refine blk_alloc ?_ _)); exact BK119.out) hb); have n7_ := Aside0.mk (below_step (by repeat (first | (with_reducible first | exact HB.out | apply below_alloc | apply pw_below_drewN | apply below_drew1 | refine below_set ?_ GE101.out | refine below_set ?_ GE102.out | refine below_set ?_ GE119.out) | exact HB.out)) hb); have n8_ := Aside0.mk (hbox); have n9_ := Aside0.mk ((by rw [hg]; exact (below_size (by repeat (first | (with_reducible first | exact HB.out | apply below_alloc | apply pw_below_drewN | apply below_drew1 | refine below_set ?_ GE101.out | refine below_set ?_ GE102.out | refine below_set ?_ GE119.out) | exact HB.out))) : w.heap.size ≤ gb124)); have n10_ := Aside0.mk ((by rw [hg]; exact (below_size (by repeat (first | (with_reducible first | exact HB.out | apply below_alloc | apply pw_below_drewN | apply below_drew1 | refine below_set ?_ GE101.out | refine below_set ?_ GE102.out | refine below_set ?_ GE119.out) | exact HB.out))) : w.heap.size ≤ gb124)); have n11_ := Aside0.mk ((by rw [hg]; exact Nat.ne_of_lt (blk_lt (g := gb101) (o := .cells #[.string a0_0, .slice A0_1 l0_1.length c0_1] 24 (0, 0)) (by (with_reducible repeat (first | refine blk_drewN ?_ _ | refine blk_drew ?_ | refine blk_alloc ?_ _)); exact BK101.out)) : gb101 ≠ gb124)); have n12_ := Aside0.mk ((by rw [hg]; exact Nat.ne_of_gt (blk_lt (g := gb101) (o := .cells #[.string a0_0, .slice A0_1 l0_1.length c0_1] 24 (0, 0)) (by (with_reducible repeat (first | refine blk_drewN ?_ _ | refine blk_drew ?_ | refine blk_alloc ?_ _)); exact BK101.out)) : gb124 ≠ gb101)); have n13_ := Aside0.mk ((by rw [hg]; exact Nat.ne_of_lt (blk_lt (g := gb102) (o := .cells #[.string a1_0, .slice A1_1 l1_1.length c1_1] 24 (0, 0)) (by (with_reducible repeat (first | refine blk_drewN ?_ _ | refine blk_drew ?_ | refine blk_alloc ?_ _)); exact BK102.out)) : gb102 ≠ gb124)); have n14_ := Aside0.mk ((by rw [hg]; exact Nat.ne_of_gt (blk_lt (g := gb102) (o := .cells #[.string a1_0, .slice A1_1 l1_1.length c1_1] 24 (0, 0)) (by (with_reducible repeat (first | refine blk_drewN ?_ _ | refine blk_drew ?_ | refine blk_alloc ?_ _)); exact BK102.out)) : gb124 ≠ gb102)); have n15_ := Aside0.mk ((by rw [hg]; exact Nat.ne_of_lt (blk_lt (g := gb119) (o := .cells #[.string t115, .slice Ao37 t116.length co37] 28 (0, 0)) (by (with_reducible repeat (first | refine blk_drewN ?_ _ | refine blk_drew ?_ | refine blk_alloc ?_ _)); exact BK119.out)) : gb119 ≠ gb124)); have n16_ := Aside0.mk ((by rw [hg]; exact Nat.ne_of_gt (blk_lt (g := gb119) (o := .cells #[.string t115, .slice Ao37 t116.length co37] 28 (0, 0)) (by (with_reducible repeat (first | refine blk_drewN ?_ _ | refine blk_drew ?_ | refine blk_alloc ?_ _)); exact BK119.out)) : gb124 ≠ gb119)); clear HO108; clear HO112; clear HO118; clear HO123; clear BK101; clear BK102; clear BK119; clear HB; have HO108 := n0_; have HO112 := n1_; have HO118 := n2_; have HO123 := n3_; have BK101 := n4_; have BK102 := n5_; have BK119 := n6_; have HB := n7_; have BK124 := n8_; have GW124 := n9_; have GE124 := n10_; have NB101_124 := n11_; have NB124_101 := n12_; have NB102_124 := n13_; have NB124_102 := n14_; have NB119_124 := n15_; have NB124_119 := n16_; clear n0_ n1_ n2_ n3_ n4_ n5_ n6_ n7_ n8_ n9_ n10_ n11_ n12_ n13_ n14_ n15_ n16_; clear hb hbox hg; have hnb41 := NB124_101.out; have hnc41 := NB101_124.out; have hnb42 := NB124_102.out; have hnc42 := NB102_124.out; have hnb43 := NB124_119.out; have hnc43 := NB119_124.out; have hcz44_0 : w40.cell? ⟨gb124, 0, none⟩ = some (.string (⟨#[]⟩ : ByteArray)) := (blk_cell BK124.out 0).trans rfl; have hcz44_1 : w40.cell? ⟨gb124, 1, none⟩ = some (.slice none 0 0) := (blk_cell BK124.out 1).trans rfl; have hfz44_0 := blk_frozen BK124.out 0; have hfz44_1 := blk_frozen BK124.out 1; obtain ⟨Ao45, co45, eo45⟩ := Kd.R_slice HO123.out; subst eo45; have hcz46_0 : w40.cell? ⟨gb119, 0, none⟩ = some (.string t115) := (blk_cell BK119.out 0).trans rfl; have hcz46_1 : w40.cell? ⟨gb119, 1, none⟩ = some (.slice Ao37 t116.length co37) := (blk_cell BK119.out 1).trans rfl; have hfz46_0 := blk_frozen BK119.out 0; have hfz46_1 := blk_frozen BK119.out 1) | ((with_reducible refine gate_callee (f := 15) rfl ?_); refine goesL_ (some 37) rfl rfl Try.func15 (by kernel_rfl) rfl #[.agg #[.string t115, .slice Ao37 t116.length co37], .agg #[.string t120, .slice Ao45 t121.length co45]] rfl (by (try simp only [List.map_toArray, List.map_cons, List.map_nil]); first | done | rfl | (simp only [List.length_drop, List.length_take]; rfl)) ?_; (with_reducible refine (impl_FeatureDistance.calls k t115 _ _ t116 t120 _ _ t121 t125 t126 _ ?side1 ?side2 ?side3 ?side4 A22.out).mono ?_); (case side1 => refine (Kd.R_reads' (e := 2) (base := w.heap.size) (ok := fun k_ => (((True ∧ some k_ ≠ (.slice Ao27 t106.length co27 : Value).ownBlock) ∧ some k_ ≠ (.slice Ao28 t110.length co28 : Value).ownBlock) ∧ some k_ ≠ (.slice Ao45 t121.length co45 : Value).ownBlock)) (n := t116.length) (c := co37) ?_).2.2; exact (by (with_reducible repeat (first | apply Kd.R_alloc | apply Kd.R_drewN | apply Kd.R_drew)); exact (Kd.R_mono (Kd.R_far (p := ⟨gb124, 1, none⟩) (Kd.R_far (p := ⟨gb124, 0, none⟩) (Kd.R_types HO118.out BK124.out (by decide)) (fun _ hk => hk.2) (.string t120)) (fun _ hk => hk.2) (.slice Ao45 t121.length co45)) (fun _ h_ => h_.1)))); (case side2 => exact (Kd.R_reads' HO118.out).2.1); (case side3 => refine (Kd.R_reads' (e := 2) (base := w.heap.size) (ok := fun k_ => (((True ∧ some k_ ≠ (.slice Ao27 t106.length co27 : Value).ownBlock) ∧ some k_ ≠ (.slice Ao28 t110.length co28 : Value).ownBlock) ∧ some k_ ≠ (.slice Ao37 t116.length co37 : Value).ownBlock)) (n := t121.length) (c := co45) ?_).2.2; exact (by (with_reducible repeat (first | apply Kd.R_alloc | apply Kd.R_drewN | apply Kd.R_drew)); exact (Kd.R_mono (Kd.R_far (p := ⟨gb124, 1, none⟩) (Kd.R_far (p := ⟨gb124, 0, none⟩) (Kd.R_types HO123.out BK124.out (by decide)) (fun _ hk => hk.2) (.string t120)) (fun _ hk => hk.2) (.slice Ao45 t121.length co45)) (fun _ h_ => h_.1)))); (case side4 => exact (Kd.R_reads' HO123.out).2.1); rintro e w47 ⟨rfl, hb⟩; refine ⟨_, rfl, ?_⟩; have n0_ := Aside0.mk (Kd.R_below (by (with_reducible repeat (first | apply Kd.R_alloc | apply Kd.R_drewN | apply Kd.R_drew)); exact (Kd.R_mono (Kd.R_far (p := ⟨gb124, 1, none⟩) (Kd.R_far (p := ⟨gb124, 0, none⟩) (Kd.R_types HO108.out BK124.out (by decide)) (fun _ hk => hk.2) (.string t120)) (fun _ hk => hk.2) (.slice Ao45 t121.length co45)) (fun _ h_ => h_.1))) hb); have n1_ := Aside0.mk (Kd.R_below (by (with_reducible repeat (first | apply Kd.R_alloc | apply Kd.R_drewN | apply Kd.R_drew)); exact (Kd.R_mono (Kd.R_far (p := ⟨gb124, 1, none⟩) (Kd.R_far (p := ⟨gb124, 0, none⟩) (Kd.R_types HO112.out BK124.out (by decide)) (fun _ hk => hk.2) (.string t120)) (fun _ hk => hk.2) (.slice Ao45 t121.length co45)) (fun _ h_ => h_.1))) hb); have n2_ := Aside0.mk (Kd.R_below (by (with_reducible repeat (first | apply Kd.R_alloc | apply Kd.R_drewN | apply Kd.R_drew)); exact (Kd.R_mono (Kd.R_far (p := ⟨gb124, 1, none⟩) (Kd.R_far (p := ⟨gb124, 0, none⟩) (Kd.R_types HO118.out BK124.out (by decide)) (fun _ hk => hk.2) (.string t120)) (fun _ hk => hk.2) (.slice Ao45 t121.length co45)) (fun _ h_ => h_.1))) hb); have n3_ := Aside0.mk (Kd.R_below (by (with_reducible repeat (first | apply Kd.R_alloc | apply Kd.R_drewN | apply Kd.R_drew)); exact (Kd.R_mono (Kd.R_far (p := ⟨gb124, 1, none⟩) (Kd.R_far (p := ⟨gb124, 0, none⟩) (Kd.R_types HO123.out BK124.out (by decide)) (fun _ hk => hk.2) (.string t120)) (fun _ hk => hk.2) (.slice Ao45 t121.length co45)) (fun _ h_ => h_.1))) hb); have n4_ := Aside0.mk (blk_below (g := gb101) (o := .cells #[.string a0_0, .slice A0_1 l0_1.length c0_1] 24 (0, 0)) (by (with_reducible repeat (first | refine blk_drewN ?_ _ | refine blk_drew ?_ | refine blk_alloc ?_ _)); refine blk_far ?_ NB101_124.out _; (with_reducible repeat (first | refine blk_drewN ?_ _ | refine blk_drew ?_ | refine blk_alloc ?_ _)); refine blk_far ?_ NB101_124.out _; (with_reducible repeat (first | refine blk_drewN ?_ _ | refine blk_drew ?_ | refine blk_alloc ?_ _)); exact BK101.out) hb); have n5_ := Aside0.mk (blk_below (g := gb102) (o := .cells #[.string a1_0, .slice A1_1 l1_1.length c1_1] 24 (0, 0)) (by (with_reducible repeat (first | refine blk_drewN ?_ _ | refine blk_drew ?_ | refine blk_alloc ?_ _)); refine blk_far ?_ NB102_124.out _; (with_reducible repeat (first | refine blk_drewN ?_ _ | refine blk_drew ?_ | refine blk_alloc ?_ _)); refine blk_far ?_ NB102_124.out _; (with_reducible repeat (first | refine blk_drewN ?_ _ | refine blk_drew ?_ | refine blk_alloc ?_ _)); exact BK102.out) hb); have n6_ := Aside0.mk (blk_below (g := gb119) (o := .cells #[.string t115, .slice Ao37 t116.length co37] 28 (0, 0)) (by (with_reducible repeat (first | refine blk_drewN ?_ _ | refine blk_drew ?_ | refine blk_alloc ?_ _)); refine blk_far ?_ NB119_124.out _; (with_reducible repeat (first | refine blk_drewN ?_ _ | refine blk_drew ?_ | refine blk_alloc ?_ _)); refine blk_far ?_ NB119_124.out _; (with_reducible repeat (first | refine blk_drewN ?_ _ | refine blk_drew ?_ | refine blk_alloc ?_ _)); exact BK119.out) hb); have n7_ := Aside0.mk (blk_below (g := gb124) (o := .cells #[.string t120, .slice Ao45 t121.length co45] 28 (0, 0)) (by (with_reducible repeat (first | refine blk_drewN ?_ _ | refine blk_drew ?_ | refine blk_alloc ?_ _)); refine blk_put (cs := #[.string t120, .slice none 0 0]) ?_ 1 _ rfl; (with_reducible repeat (first | refine blk_drewN ?_ _ | refine blk_drew ?_ | refine blk_alloc ?_ _)); refine blk_put (cs := #[.string (⟨#[]⟩ : ByteArray), .slice none 0 0]) ?_ 0 _ rfl; (with_reducible repeat (first | refine blk_drewN ?_ _ | refine blk_drew ?_ | refine blk_alloc ?_ _)); exact BK124.out) hb); have n8_ := Aside0.mk (below_step (by repeat (first | (with_reducible first | exact HB.out | apply below_alloc | apply pw_below_drewN | apply below_drew1 | refine below_set ?_ GE101.out | refine below_set ?_ GE102.out | refine below_set ?_ GE119.out | refine below_set ?_ GE124.out) | exact HB.out)) hb); clear HO108; clear HO112; clear HO118; clear HO123; clear BK101; clear BK102; clear BK119; clear BK124; clear HB; have HO108 := n0_; have HO112 := n1_; have HO118 := n2_; have HO123 := n3_; have BK101 := n4_; have BK102 := n5_; have BK119 := n6_; have BK124 := n7_; have HB := n8_; clear n0_ n1_ n2_ n3_ n4_ n5_ n6_ n7_ n8_; (try clear hb); (try clear hb2); (try clear hk); (try clear hi)))
      (try simp only [Act.put, List.setIfInBounds_toArray, List.set_cons_zero, List.set_cons_succ])
      go_cut [47] (fun v47 wc => ∃ (kq : Nat) (x47_22 : Bool), v47 = .bool x47_22 ∧ Aside0 (laws_FnExactFeatureDistance.j0 kq x47_22 a0_0 l0_1 a1_0 l1_1 t115 t116 t120 t121 = some r) ∧ Aside0 (kq ≤ k) ∧ Aside0 (Kd.R (Kd.int .i64) 2 wc w.heap.size (fun k_ => some k_ ≠ ((.slice Ao45 t121.length co45) : Value).ownBlock) (.slice Ao37 t116.length co37) t116) ∧ Aside0 (Kd.R (Kd.int .i64) 2 wc w.heap.size (fun k_ => some k_ ≠ ((.slice Ao37 t116.length co37) : Value).ownBlock) (.slice Ao45 t121.length co45) t121) ∧ Aside0 (wc.heap[gb101]? = some (.cells #[.string a0_0, (.slice A0_1 l0_1.length c0_1)] 24 (0, 0))) ∧ Aside0 (wc.heap[gb102]? = some (.cells #[.string a1_0, (.slice A1_1 l1_1.length c1_1)] 24 (0, 0))) ∧ Aside0 (wc.heap[gb119]? = some (.cells #[.string t115, (.slice Ao37 t116.length co37)] 28 (0, 0))) ∧ Aside0 (wc.heap[gb124]? = some (.cells #[.string t120, (.slice Ao45 t121.length co45)] 28 (0, 0))) ∧ Aside0 (Below w.heap.size w wc))
      case first =>
        have H := HC23.out
        clear HC23
        by_cases c48 : t125 = t113
        · rw [if_pos c48] at H
          have c48b0 : (t125 == t113) = true := beq_iff_eq.mpr c48
          have c48b1 : (t125 != t113) = false := bne_eq_false_iff_eq.mpr c48
          clear c48
          (first | rw [c48b0] | (simp only [i64_w, i32_w]; rw [c48b0]) | (simp only [c48b2, Bool.not_true, Bool.not_false]) | (simp only [c48b1, Bool.not_true, Bool.not_false]) | (simp only [c48b0, Bool.not_true, Bool.not_false]) | skip)
          have H' := Aside0.mk H
          clear H
          go_wp2
          go_meet
          case rel => exact ⟨_, ((t126 != t114)), (by first | rfl | (simp; done) | (simp [*]; done)), H', ⟨by first | omega | exact Nat.le_refl _⟩, ⟨by (with_reducible repeat (first | apply Kd.R_alloc | apply Kd.R_drewN | apply Kd.R_drew)); exact Kd.R_mono HO118.out (fun _ hk => hk.2)⟩, ⟨by (with_reducible repeat (first | apply Kd.R_alloc | apply Kd.R_drewN | apply Kd.R_drew)); exact Kd.R_mono HO123.out (fun _ hk => hk.2)⟩, ⟨by (with_reducible repeat (first | refine blk_drewN ?_ _ | refine blk_drew ?_ | refine blk_alloc ?_ _)); exact BK101.out⟩, ⟨by (with_reducible repeat (first | refine blk_drewN ?_ _ | refine blk_drew ?_ | refine blk_alloc ?_ _)); exact BK102.out⟩, ⟨by (with_reducible repeat (first | refine blk_drewN ?_ _ | refine blk_drew ?_ | refine blk_alloc ?_ _)); exact BK119.out⟩, ⟨by (with_reducible repeat (first | refine blk_drewN ?_ _ | refine blk_drew ?_ | refine blk_alloc ?_ _)); exact BK124.out⟩, ⟨by repeat (first | (with_reducible first | exact HB.out | apply below_alloc | apply pw_below_drewN | apply below_drew1 | refine below_set ?_ GE101.out | refine below_set ?_ GE102.out | refine below_set ?_ GE119.out | refine below_set ?_ GE124.out) | exact HB.out)⟩⟩
        · rw [if_neg c48] at H
          have c48b0 : (t125 == t113) = false := beq_eq_false_iff_ne.mpr c48
          have c48b1 : (t125 != t113) = true := bne_iff_ne.mpr c48
          (first | rw [c48b0] | (simp only [i64_w, i32_w]; rw [c48b0]) | (simp only [c48b2, Bool.not_true, Bool.not_false]) | (simp only [c48b1, Bool.not_true, Bool.not_false]) | (simp only [c48b0, Bool.not_true, Bool.not_false]) | skip)
          have H' := Aside0.mk H
          clear H
          go_wp2
          go_meet
          case rel => exact ⟨_, (true), (by first | rfl | (simp; done) | (simp [*]; done)), H', ⟨by first | omega | exact Nat.le_refl _⟩, ⟨by (with_reducible repeat (first | apply Kd.R_alloc | apply Kd.R_drewN | apply Kd.R_drew)); exact Kd.R_mono HO118.out (fun _ hk => hk.2)⟩, ⟨by (with_reducible repeat (first | apply Kd.R_alloc | apply Kd.R_drewN | apply Kd.R_drew)); exact Kd.R_mono HO123.out (fun _ hk => hk.2)⟩, ⟨by (with_reducible repeat (first | refine blk_drewN ?_ _ | refine blk_drew ?_ | refine blk_alloc ?_ _)); exact BK101.out⟩, ⟨by (with_reducible repeat (first | refine blk_drewN ?_ _ | refine blk_drew ?_ | refine blk_alloc ?_ _)); exact BK102.out⟩, ⟨by (with_reducible repeat (first | refine blk_drewN ?_ _ | refine blk_drew ?_ | refine blk_alloc ?_ _)); exact BK119.out⟩, ⟨by (with_reducible repeat (first | refine blk_drewN ?_ _ | refine blk_drew ?_ | refine blk_alloc ?_ _)); exact BK124.out⟩, ⟨by repeat (first | (with_reducible first | exact HB.out | apply below_alloc | apply pw_below_drewN | apply below_drew1 | refine below_set ?_ GE101.out | refine below_set ?_ GE102.out | refine below_set ?_ GE119.out | refine below_set ?_ GE124.out) | exact HB.out)⟩⟩
      case rest =>
        clear HC23
        try clear c1
        try clear p2
        try clear c3
        try clear c4
        try clear c7
        try clear c10
        try clear c10b0
        try clear c10b1
        try clear c10b2
        try clear c12
        try clear c13
        try clear c14
        try clear c15
        try clear c16
        try clear c16b0
        try clear c16b1
        try clear c16b2
        try clear c30
        try clear c34
        try clear c35
        try clear c41
        try clear c42
        try clear c43
        try clear c48
        try clear c48b0
        try clear c48b1
        try clear c48b2
        try clear hcz14_0
        try clear hcz14_1
        try clear hcz31_0
        try clear hcz31_1
        try clear hcz36_0
        try clear hcz36_1
        try clear hcz38_0
        try clear hcz38_1
        try clear hcz44_0
        try clear hcz44_1
        try clear hcz46_0
        try clear hcz46_1
        try clear hcz8_0
        try clear hcz8_1
        try clear hfz14_0
        try clear hfz14_1
        try clear hfz31_0
        try clear hfz31_1
        try clear hfz36_0
        try clear hfz36_1
        try clear hfz38_0
        try clear hfz38_1
        try clear hfz44_0
        try clear hfz44_1
        try clear hfz46_0
        try clear hfz46_1
        try clear hfz8_0
        try clear hfz8_1
        obtain ⟨kq, x47_22, rfl, HA, HJ22, HO_120001, HO_125001, BK101, BK102, BK119, BK124, HB⟩ := hcut
        cases kq with
        | zero => exact absurd HA.out (by simp [laws_FnExactFeatureDistance.j0])
        | succ kj22 =>
          have H := HA.out
          clear HA
          simp only [laws_FnExactFeatureDistance.j0] at H
          by_cases c49 : x47_22 = true
          · subst c49
            have H1 : (some false) = some r := by rw [if_pos rfl] at H; exact H
            clear H
            have H := H1
            clear H1
            obtain rfl := Option.some.inj H
            go_wp2
            go_ret
            exact ⟨by first | rfl | (simp [errW_none, errW_some] <;> rfl) | (simp [*, errW_none, errW_some] <;> rfl), by repeat (first | (with_reducible first | exact HB.out | apply below_alloc | apply pw_below_drewN | apply below_drew1 | refine below_set ?_ GE101.out | refine below_set ?_ GE102.out | refine below_set ?_ GE119.out | refine below_set ?_ GE124.out) | exact HB.out)⟩
          · replace c49 := Bool.eq_false_iff.mpr c49
            subst c49
            have H1 : ((laws_toFeature.f kj22 a0_0 l0_1).bind fun bt127 => ((laws_eqFeature.f kj22 t115 t116 bt127.1 bt127.2).bind fun t131 => (if t131 = true then ((laws_toFeature.f kj22 a1_0 l1_1).bind fun bt132 => ((laws_eqFeature.f kj22 t120 t121 bt132.1 bt132.2).bind fun t136 => (if t136 = true then (some true) else (some false)))) else (some false)))) = some r := by rw [if_neg (show ¬ (false = true) by decide)] at H; exact H
            clear H
            have H := H1
            clear H1
            replace H := Option.bind_eq_some_iff.mp H
            obtain ⟨⟨t127, t128⟩, A500, H⟩ := H
            replace H : ((laws_eqFeature.f kj22 t115 t116 t127 t128).bind fun t131 => (if t131 = true then ((laws_toFeature.f kj22 a1_0 l1_1).bind fun bt132 => ((laws_eqFeature.f kj22 t120 t121 bt132.1 bt132.2).bind fun t136 => (if t136 = true then (some true) else (some false)))) else (some false))) = some r := H
            have A50 := Aside0.mk A500
            clear A500
            replace H := Option.bind_eq_some_iff.mp H
            obtain ⟨t131, A510, H⟩ := H
            replace H : (if t131 = true then ((laws_toFeature.f kj22 a1_0 l1_1).bind fun bt132 => ((laws_eqFeature.f kj22 t120 t121 bt132.1 bt132.2).bind fun t136 => (if t136 = true then (some true) else (some false)))) else (some false)) = some r := H
            have A51 := Aside0.mk A510
            clear A510
            have HC52 := Aside0.mk H
            clear H
            try go_wp2
            (try (rw [drewN_self wc]; generalize hq_ : World.drewN wc _ = wc; have n0_ : Aside0 (Kd.R (Kd.int .i64) 2 wc w.heap.size (fun k_ => some k_ ≠ (.slice Ao45 t121.length co45 : Value).ownBlock) (.slice Ao37 t116.length co37) t116) := ⟨by rw [← hq_]; exact (by (with_reducible repeat (first | apply Kd.R_alloc | apply Kd.R_drewN | apply Kd.R_drew)); exact HO_120001.out)⟩; have n1_ : Aside0 (Kd.R (Kd.int .i64) 2 wc w.heap.size (fun k_ => some k_ ≠ (.slice Ao37 t116.length co37 : Value).ownBlock) (.slice Ao45 t121.length co45) t121) := ⟨by rw [← hq_]; exact (by (with_reducible repeat (first | apply Kd.R_alloc | apply Kd.R_drewN | apply Kd.R_drew)); exact HO_125001.out)⟩; have n2_ : Aside0 (wc.heap[gb101]? = some (.cells #[.string a0_0, .slice A0_1 l0_1.length c0_1] 24 (0, 0))) := ⟨by rw [← hq_]; exact (by (with_reducible repeat (first | refine blk_drewN ?_ _ | refine blk_drew ?_ | refine blk_alloc ?_ _)); exact BK101.out)⟩; have n3_ : Aside0 (wc.heap[gb102]? = some (.cells #[.string a1_0, .slice A1_1 l1_1.length c1_1] 24 (0, 0))) := ⟨by rw [← hq_]; exact (by (with_reducible repeat (first | refine blk_drewN ?_ _ | refine blk_drew ?_ | refine blk_alloc ?_ _)); exact BK102.out)⟩; have n4_ : Aside0 (wc.heap[gb119]? = some (.cells #[.string t115, .slice Ao37 t116.length co37] 28 (0, 0))) := ⟨by rw [← hq_]; exact (by (with_reducible repeat (first | refine blk_drewN ?_ _ | refine blk_drew ?_ | refine blk_alloc ?_ _)); exact BK119.out)⟩; have n5_ : Aside0 (wc.heap[gb124]? = some (.cells #[.string t120, .slice Ao45 t121.length co45] 28 (0, 0))) := ⟨by rw [← hq_]; exact (by (with_reducible repeat (first | refine blk_drewN ?_ _ | refine blk_drew ?_ | refine blk_alloc ?_ _)); exact BK124.out)⟩; have n6_ : Aside0 (Below w.heap.size w wc) := ⟨by rw [← hq_]; exact (by repeat (first | (with_reducible first | exact HB.out | apply below_alloc | apply pw_below_drewN | apply below_drew1 | refine below_set ?_ GE101.out | refine below_set ?_ GE102.out | refine below_set ?_ GE119.out | refine below_set ?_ GE124.out) | exact HB.out))⟩; clear HO_120001 HO_125001 BK101 BK102 BK119 BK124 HB hq_; have HO_120001 := n0_; have HO_125001 := n1_; have BK101 := n2_; have BK102 := n3_; have BK119 := n4_; have BK124 := n5_; have HB := n6_; clear n0_ n1_ n2_ n3_ n4_ n5_ n6_))
            have n0_ := Aside0.mk (Kd.R_drew HO_120001.out)
            have n1_ := Aside0.mk (Kd.R_drew HO_125001.out)
            have n2_ := Aside0.mk (blk_drew BK101.out)
            have n3_ := Aside0.mk (blk_drew BK102.out)
            have n4_ := Aside0.mk (blk_drew BK119.out)
            have n5_ := Aside0.mk (blk_drew BK124.out)
            have n6_ := Aside0.mk (below_drew1 HB.out)
            clear HO_120001
            clear HO_125001
            clear BK101
            clear BK102
            clear BK119
            clear BK124
            clear HB
            have HO_120001 := n0_
            have HO_125001 := n1_
            have BK101 := n2_
            have BK102 := n3_
            have BK119 := n4_
            have BK124 := n5_
            have HB := n6_
            clear n0_ n1_ n2_ n3_ n4_ n5_ n6_
            refine start_ (n := 5) (S := fun w' => w'.cell? ⟨gb119, 0, none⟩ = some (.string t115) ∧ w'.cell? ⟨gb119, 1, none⟩ = some (.slice Ao37 t116.length co37) ∧ w'.cell? ⟨gb101, 0, none⟩ = some (.string a0_0) ∧ w'.cell? ⟨gb101, 1, none⟩ = some (.slice A0_1 l0_1.length c0_1)) (ds := []) #[false, false, false, false, false] (by kernel_rfl) rfl rfl ⟨(blk_cell BK119.out 0).trans rfl, (blk_cell BK119.out 1).trans rfl, (blk_cell BK101.out 0).trans rfl, (blk_cell BK101.out 1).trans rfl⟩ (fun hHeld => ?_)
            generalize wc.drew = w53 at HO_120001 HO_125001 BK101 BK102 BK119 BK124 HB hHeld ⊢
            refine take_ (i := 0) (N := some 48) (v := ?_) (a' := ?_) #[true, false, false, false, false] rfl rfl (by kernel_rfl) (fun _ _ _ h => h) (Or.inl ⟨by rfl, ?_⟩) hHeld ?_ ?_
            rotate_left
            · rintro w' ⟨s0, s1, s2, s3⟩
              go_simp
              with_reducible rfl
            rotate_left
            · simp only [Act.put, List.setIfInBounds_toArray, List.set_cons_zero, List.set_cons_succ, i64_w, i32_w]
              rfl
            refine take_ (i := 1) (N := some 49) (v := ?_) (a' := ?_) #[true, true, false, false, false] rfl rfl (by kernel_rfl) (fun _ _ _ h => h) (Or.inl ⟨by rfl, ?_⟩) hHeld ?_ ?_
            rotate_left
            · rintro w' ⟨s0, s1, s2, s3⟩
              go_simp
              with_reducible rfl
            rotate_left
            · simp only [Act.put, List.setIfInBounds_toArray, List.set_cons_zero, List.set_cons_succ, i64_w, i32_w]
              rfl
            refine one_ (i := 2) (N := some 50) #[true, true, true, false, false] rfl rfl (by kernel_rfl) (by decide) (fun K hK => ?_)
            refine goes_ Try.func14 (by kernel_rfl) rfl #[.agg #[.string a0_0, .slice A0_1 l0_1.length c0_1]] (by rfl) rfl rfl (by (try simp only [List.map_toArray, List.map_cons, List.map_nil]); first | done | rfl | (simp only [List.length_drop, List.length_take]; rfl)) ?_
            with_reducible refine (laws_toFeature.calls kj22 a0_0 _ _ l0_1 t127 t128 _ ?side1 ?side2 A50.out).mono ?_
            (case side1 => repeat (first | exact (Kd.C_below HR0_1.out HB.out) | (with_reducible refine Kd.C_alloc ?_ _) | (with_reducible refine Kd.C_drewN ?_ _) | (with_reducible refine Kd.C_drew ?_)))
            (case side2 => exact HC0_1.out)
            rintro e w54 ⟨v129, rfl, ho0, hb⟩
            refine ⟨_, rfl, ?_⟩
            have n0_ := Aside0.mk (Kd.R_elder' (by (with_reducible repeat (first | apply Kd.R_alloc | apply Kd.R_drewN | apply Kd.R_drew)); exact HO_120001.out) (Kd.R_base ho0) hb)
            have n1_ := Aside0.mk (Kd.R_elder' (by (with_reducible repeat (first | apply Kd.R_alloc | apply Kd.R_drewN | apply Kd.R_drew)); exact HO_125001.out) (Kd.R_base ho0) hb)
            have n2_ := Aside0.mk (Kd.R_lower (Kd.R_new' (Kd.R_new' ho0 (Kd.R_lt (by (with_reducible repeat (first | apply Kd.R_alloc | apply Kd.R_drewN | apply Kd.R_drew)); exact HO_120001.out))) (Kd.R_lt (by (with_reducible repeat (first | apply Kd.R_alloc | apply Kd.R_drewN | apply Kd.R_drew)); exact HO_125001.out))) (below_size (by repeat (first | (with_reducible first | exact HB.out | apply below_alloc | apply pw_below_drewN | apply below_drew1 | refine below_set ?_ GE101.out | refine below_set ?_ GE102.out | refine below_set ?_ GE119.out | refine below_set ?_ GE124.out) | exact HB.out))))
            have n3_ := Aside0.mk (blk_below (g := gb101) (o := .cells #[.string a0_0, .slice A0_1 l0_1.length c0_1] 24 (0, 0)) (by (with_reducible repeat (first | refine blk_drewN ?_ _ | refine blk_drew ?_ | refine blk_alloc ?_ _)); exact BK101.out) hb)
            have n4_ := Aside0.mk (blk_below (g := gb102) (o := .cells #[.string a1_0, .slice A1_1 l1_1.length c1_1] 24 (0, 0)) (by (with_reducible repeat (first | refine blk_drewN ?_ _ | refine blk_drew ?_ | refine blk_alloc ?_ _)); exact BK102.out) hb)
            have n5_ := Aside0.mk (blk_below (g := gb119) (o := .cells #[.string t115, .slice Ao37 t116.length co37] 28 (0, 0)) (by (with_reducible repeat (first | refine blk_drewN ?_ _ | refine blk_drew ?_ | refine blk_alloc ?_ _)); exact BK119.out) hb)
            have n6_ := Aside0.mk (blk_below (g := gb124) (o := .cells #[.string t120, .slice Ao45 t121.length co45] 28 (0, 0)) (by (with_reducible repeat (first | refine blk_drewN ?_ _ | refine blk_drew ?_ | refine blk_alloc ?_ _)); exact BK124.out) hb)
            have n7_ := Aside0.mk (below_step (by repeat (first | (with_reducible first | exact HB.out | apply below_alloc | apply pw_below_drewN | apply below_drew1 | refine below_set ?_ GE101.out | refine below_set ?_ GE102.out | refine below_set ?_ GE119.out | refine below_set ?_ GE124.out) | exact HB.out)) hb)
            clear HO_120001
            clear HO_125001
            clear BK101
            clear BK102
            clear BK119
            clear BK124
            clear HB
            have HO_120001 := n0_
            have HO_125001 := n1_
            have HO130 := n2_
            have BK101 := n3_
            have BK102 := n4_
            have BK119 := n5_
            have BK124 := n6_
            have HB := n7_
            clear n0_ n1_ n2_ n3_ n4_ n5_ n6_ n7_
            (try clear hb)
            (try clear hb2)
            (try clear hk)
            (try clear hi)
            (try clear ho0)
            obtain ⟨Ao55, co55, eo55⟩ := Kd.R_slice HO130.out
            (first | subst eo55 | (injection eo55 with f1_ f2_ f3_; have f4_ := f1_.symm; have f5_ := f3_.symm; clear f1_ f2_ f3_; subst f4_; subst f5_))
            refine hK.out _ _ ⟨(blk_cell BK119.out 0).trans rfl, (blk_cell BK119.out 1).trans rfl, (blk_cell BK101.out 0).trans rfl, (blk_cell BK101.out 1).trans rfl⟩ (fun hHeld => ?_)
            clear hK K
            refine norm_ (a' := ?_) ?_ ?_
            rotate_left
            · show Act.put _ (some 50) _ = _
              simp only [Act.put, List.setIfInBounds_toArray, List.set_cons_zero, List.set_cons_succ, i64_w, i32_w]
              rfl
            refine one_ (i := 3) (N := some 51) #[true, true, true, true, false] rfl rfl (by kernel_rfl) (by decide) (fun K hK => ?_)
            refine goes_ Try.func16 (by kernel_rfl) rfl #[.agg #[.string t115, .slice Ao37 t116.length co37], .agg #[.string t127, .slice Ao55 t128.length co55]] (by rfl) rfl rfl (by (try simp only [List.map_toArray, List.map_cons, List.map_nil]); first | done | rfl | (simp only [List.length_drop, List.length_take]; rfl)) ?_
            with_reducible refine (laws_eqFeature.calls kj22 t115 _ _ t116 t127 _ _ t128 t131 _ ?side1 ?side2 ?side3 ?side4 A51.out).mono ?_
            (case side1 => repeat (first | exact (Kd.R_reads' HO_120001.out).2.2 | (with_reducible refine Kd.C_alloc ?_ _) | (with_reducible refine Kd.C_drewN ?_ _) | (with_reducible refine Kd.C_drew ?_)))
            (case side2 => exact (Kd.R_reads' HO_120001.out).2.1)
            (case side3 => repeat (first | exact (Kd.R_reads' HO130.out).2.2 | (with_reducible refine Kd.C_alloc ?_ _) | (with_reducible refine Kd.C_drewN ?_ _) | (with_reducible refine Kd.C_drew ?_)))
            (case side4 => exact (Kd.R_reads' HO130.out).2.1)
            rintro e w56 ⟨rfl, hb⟩
            refine ⟨_, rfl, ?_⟩
            have n0_ := Aside0.mk (Kd.R_below (by (with_reducible repeat (first | apply Kd.R_alloc | apply Kd.R_drewN | apply Kd.R_drew)); exact HO_120001.out) hb)
            have n1_ := Aside0.mk (Kd.R_below (by (with_reducible repeat (first | apply Kd.R_alloc | apply Kd.R_drewN | apply Kd.R_drew)); exact HO_125001.out) hb)
            have n2_ := Aside0.mk (Kd.R_below (by (with_reducible repeat (first | apply Kd.R_alloc | apply Kd.R_drewN | apply Kd.R_drew)); exact HO130.out) hb)
            have n3_ := Aside0.mk (blk_below (g := gb101) (o := .cells #[.string a0_0, .slice A0_1 l0_1.length c0_1] 24 (0, 0)) (by (with_reducible repeat (first | refine blk_drewN ?_ _ | refine blk_drew ?_ | refine blk_alloc ?_ _)); exact BK101.out) hb)
            have n4_ := Aside0.mk (blk_below (g := gb102) (o := .cells #[.string a1_0, .slice A1_1 l1_1.length c1_1] 24 (0, 0)) (by (with_reducible repeat (first | refine blk_drewN ?_ _ | refine blk_drew ?_ | refine blk_alloc ?_ _)); exact BK102.out) hb)
            have n5_ := Aside0.mk (blk_below (g := gb119) (o := .cells #[.string t115, .slice Ao37 t116.length co37] 28 (0, 0)) (by (with_reducible repeat (first | refine blk_drewN ?_ _ | refine blk_drew ?_ | refine blk_alloc ?_ _)); exact BK119.out) hb)
            have n6_ := Aside0.mk (blk_below (g := gb124) (o := .cells #[.string t120, .slice Ao45 t121.length co45] 28 (0, 0)) (by (with_reducible repeat (first | refine blk_drewN ?_ _ | refine blk_drew ?_ | refine blk_alloc ?_ _)); exact BK124.out) hb)
            have n7_ := Aside0.mk (below_step (by repeat (first | (with_reducible first | exact HB.out | apply below_alloc | apply pw_below_drewN | apply below_drew1 | refine below_set ?_ GE101.out | refine below_set ?_ GE102.out | refine below_set ?_ GE119.out | refine below_set ?_ GE124.out) | exact HB.out)) hb)
            clear HO_120001
            clear HO_125001
            clear HO130
            clear BK101
            clear BK102
            clear BK119
            clear BK124
            clear HB
            have HO_120001 := n0_
            have HO_125001 := n1_
            have HO130 := n2_
            have BK101 := n3_
            have BK102 := n4_
            have BK119 := n5_
            have BK124 := n6_
            have HB := n7_
            clear n0_ n1_ n2_ n3_ n4_ n5_ n6_ n7_
            (try clear hb)
            (try clear hb2)
            (try clear hk)
            (try clear hi)
            refine hK.out _ _ ⟨(blk_cell BK119.out 0).trans rfl, (blk_cell BK119.out 1).trans rfl, (blk_cell BK101.out 0).trans rfl, (blk_cell BK101.out 1).trans rfl⟩ (fun hHeld => ?_)
            clear hK K
            refine norm_ (a' := ?_) ?_ ?_
            rotate_left
            · show Act.put _ (some 51) _ = _
              simp only [Act.put, List.setIfInBounds_toArray, List.set_cons_zero, List.set_cons_succ, i64_w, i32_w]
              rfl
            refine pure_ (i := 4) (N := some 52) (v := ?_) (a' := ?_) #[true, true, true, true, true] rfl rfl (by kernel_rfl) (fun _ _ _ h => h) (Or.inl ⟨by rfl, ?_⟩) ?_ ?_
            rotate_left
            · intro w'
              go_simp
              with_reducible rfl
            rotate_left
            · simp only [Act.put, List.setIfInBounds_toArray, List.set_cons_zero, List.set_cons_succ, i64_w, i32_w]
              rfl
            refine done_ (by kernel_rfl) ?_
            go_upto_if 52 with (fail)
            have H := HC52.out
            clear HC52
            by_cases c57 : t131 = true
            · subst c57
              have H1 : ((laws_toFeature.f kj22 a1_0 l1_1).bind fun bt132 => ((laws_eqFeature.f kj22 t120 t121 bt132.1 bt132.2).bind fun t136 => (if t136 = true then (some true) else (some false)))) = some r := by rw [if_pos rfl] at H; exact H
              clear H
              have H := H1
              clear H1
              replace H := Option.bind_eq_some_iff.mp H
              obtain ⟨⟨t132, t133⟩, A580, H⟩ := H
              replace H : ((laws_eqFeature.f kj22 t120 t121 t132 t133).bind fun t136 => (if t136 = true then (some true) else (some false))) = some r := H
              have A58 := Aside0.mk A580
              clear A580
              replace H := Option.bind_eq_some_iff.mp H
              obtain ⟨t136, A590, H⟩ := H
              replace H : (if t136 = true then (some true) else (some false)) = some r := H
              have A59 := Aside0.mk A590
              clear A590
              have HC60 := Aside0.mk H
              clear H
              try go_wp2
              (try (rw [drewN_self w56]; generalize hq_ : World.drewN w56 _ = w56; have n0_ : Aside0 (Kd.R (Kd.int .i64) 2 w56 w.heap.size (fun k_ => some k_ ≠ (.slice Ao37 t116.length co37 : Value).ownBlock ∧ some k_ ≠ (.slice Ao45 t121.length co45 : Value).ownBlock) (.slice Ao55 t128.length co55) t128) := ⟨by rw [← hq_]; exact (by (with_reducible repeat (first | apply Kd.R_alloc | apply Kd.R_drewN | apply Kd.R_drew)); exact Kd.R_mono HO130.out (fun _ hk => ⟨hk.1.2, hk.2⟩))⟩; have n1_ : Aside0 (Kd.R (Kd.int .i64) 2 w56 w.heap.size (fun k_ => some k_ ≠ (.slice Ao55 t128.length co55 : Value).ownBlock ∧ some k_ ≠ (.slice Ao45 t121.length co45 : Value).ownBlock) (.slice Ao37 t116.length co37) t116) := ⟨by rw [← hq_]; exact (by (with_reducible repeat (first | apply Kd.R_alloc | apply Kd.R_drewN | apply Kd.R_drew)); exact Kd.R_mono HO_120001.out (fun _ hk => ⟨hk.2, hk.1⟩))⟩; have n2_ : Aside0 (Kd.R (Kd.int .i64) 2 w56 w.heap.size (fun k_ => some k_ ≠ (.slice Ao55 t128.length co55 : Value).ownBlock ∧ some k_ ≠ (.slice Ao37 t116.length co37 : Value).ownBlock) (.slice Ao45 t121.length co45) t121) := ⟨by rw [← hq_]; exact (by (with_reducible repeat (first | apply Kd.R_alloc | apply Kd.R_drewN | apply Kd.R_drew)); exact Kd.R_mono HO_125001.out (fun _ hk => ⟨hk.2, hk.1⟩))⟩; have n3_ : Aside0 (w56.heap[gb101]? = some (.cells #[.string a0_0, .slice A0_1 l0_1.length c0_1] 24 (0, 0))) := ⟨by rw [← hq_]; exact (by (with_reducible repeat (first | refine blk_drewN ?_ _ | refine blk_drew ?_ | refine blk_alloc ?_ _)); exact BK101.out)⟩; have n4_ : Aside0 (w56.heap[gb102]? = some (.cells #[.string a1_0, .slice A1_1 l1_1.length c1_1] 24 (0, 0))) := ⟨by rw [← hq_]; exact (by (with_reducible repeat (first | refine blk_drewN ?_ _ | refine blk_drew ?_ | refine blk_alloc ?_ _)); exact BK102.out)⟩; have n5_ : Aside0 (w56.heap[gb119]? = some (.cells #[.string t115, .slice Ao37 t116.length co37] 28 (0, 0))) := ⟨by rw [← hq_]; exact (by (with_reducible repeat (first | refine blk_drewN ?_ _ | refine blk_drew ?_ | refine blk_alloc ?_ _)); exact BK119.out)⟩; have n6_ : Aside0 (w56.heap[gb124]? = some (.cells #[.string t120, .slice Ao45 t121.length co45] 28 (0, 0))) := ⟨by rw [← hq_]; exact (by (with_reducible repeat (first | refine blk_drewN ?_ _ | refine blk_drew ?_ | refine blk_alloc ?_ _)); exact BK124.out)⟩; have n7_ : Aside0 (Below w.heap.size w w56) := ⟨by rw [← hq_]; exact (by repeat (first | (with_reducible first | exact HB.out | apply below_alloc | apply pw_below_drewN | apply below_drew1 | refine below_set ?_ GE101.out | refine below_set ?_ GE102.out | refine below_set ?_ GE119.out | refine below_set ?_ GE124.out) | exact HB.out))⟩; clear HO130 HO_120001 HO_125001 BK101 BK102 BK119 BK124 HB hq_; have HO130 := n0_; have HO_120001 := n1_; have HO_125001 := n2_; have BK101 := n3_; have BK102 := n4_; have BK119 := n5_; have BK124 := n6_; have HB := n7_; clear n0_ n1_ n2_ n3_ n4_ n5_ n6_ n7_))
              have n0_ := Aside0.mk (Kd.R_drew HO_120001.out)
              have n1_ := Aside0.mk (Kd.R_drew HO_125001.out)
              have n2_ := Aside0.mk (Kd.R_drew HO130.out)
              have n3_ := Aside0.mk (blk_drew BK101.out)
              have n4_ := Aside0.mk (blk_drew BK102.out)
              have n5_ := Aside0.mk (blk_drew BK119.out)
              have n6_ := Aside0.mk (blk_drew BK124.out)
              have n7_ := Aside0.mk (below_drew1 HB.out)
              clear HO_120001
              clear HO_125001
              clear HO130
              clear BK101
              clear BK102
              clear BK119
              clear BK124
              clear HB
              have HO_120001 := n0_
              have HO_125001 := n1_
              have HO130 := n2_
              have BK101 := n3_
              have BK102 := n4_
              have BK119 := n5_
              have BK124 := n6_
              have HB := n7_
              clear n0_ n1_ n2_ n3_ n4_ n5_ n6_ n7_
              refine start_ (n := 5) (S := fun w' => w'.cell? ⟨gb124, 0, none⟩ = some (.string t120) ∧ w'.cell? ⟨gb124, 1, none⟩ = some (.slice Ao45 t121.length co45) ∧ w'.cell? ⟨gb102, 0, none⟩ = some (.string a1_0) ∧ w'.cell? ⟨gb102, 1, none⟩ = some (.slice A1_1 l1_1.length c1_1)) (ds := []) #[false, false, false, false, false] (by kernel_rfl) rfl rfl ⟨(blk_cell BK124.out 0).trans rfl, (blk_cell BK124.out 1).trans rfl, (blk_cell BK102.out 0).trans rfl, (blk_cell BK102.out 1).trans rfl⟩ (fun hHeld => ?_)
              generalize w56.drew = w61 at HO_120001 HO_125001 HO130 BK101 BK102 BK119 BK124 HB hHeld ⊢
              refine take_ (i := 0) (N := some 53) (v := ?_) (a' := ?_) #[true, false, false, false, false] rfl rfl (by kernel_rfl) (fun _ _ _ h => h) (Or.inl ⟨by rfl, ?_⟩) hHeld ?_ ?_
              rotate_left
              · rintro w' ⟨s0, s1, s2, s3⟩
                go_simp
                with_reducible rfl
              rotate_left
              · simp only [Act.put, List.setIfInBounds_toArray, List.set_cons_zero, List.set_cons_succ, i64_w, i32_w]
                rfl
              refine take_ (i := 1) (N := some 54) (v := ?_) (a' := ?_) #[true, true, false, false, false] rfl rfl (by kernel_rfl) (fun _ _ _ h => h) (Or.inl ⟨by rfl, ?_⟩) hHeld ?_ ?_
              rotate_left
              · rintro w' ⟨s0, s1, s2, s3⟩
                go_simp
                with_reducible rfl
              rotate_left
              · simp only [Act.put, List.setIfInBounds_toArray, List.set_cons_zero, List.set_cons_succ, i64_w, i32_w]
                rfl
              refine one_ (i := 2) (N := some 55) #[true, true, true, false, false] rfl rfl (by kernel_rfl) (by decide) (fun K hK => ?_)
              refine goes_ Try.func14 (by kernel_rfl) rfl #[.agg #[.string a1_0, .slice A1_1 l1_1.length c1_1]] (by rfl) rfl rfl (by (try simp only [List.map_toArray, List.map_cons, List.map_nil]); first | done | rfl | (simp only [List.length_drop, List.length_take]; rfl)) ?_
              with_reducible refine (laws_toFeature.calls kj22 a1_0 _ _ l1_1 t132 t133 _ ?side1 ?side2 A58.out).mono ?_
              (case side1 => repeat (first | exact (Kd.C_below HR1_1.out HB.out) | (with_reducible refine Kd.C_alloc ?_ _) | (with_reducible refine Kd.C_drewN ?_ _) | (with_reducible refine Kd.C_drew ?_)))
              (case side2 => exact HC1_1.out)
              rintro e w62 ⟨v134, rfl, ho0, hb⟩
              refine ⟨_, rfl, ?_⟩
              have n0_ := Aside0.mk (Kd.R_elder' (by (with_reducible repeat (first | apply Kd.R_alloc | apply Kd.R_drewN | apply Kd.R_drew)); exact HO_120001.out) (Kd.R_base ho0) hb)
              have n1_ := Aside0.mk (Kd.R_elder' (by (with_reducible repeat (first | apply Kd.R_alloc | apply Kd.R_drewN | apply Kd.R_drew)); exact HO_125001.out) (Kd.R_base ho0) hb)
              have n2_ := Aside0.mk (Kd.R_elder' (by (with_reducible repeat (first | apply Kd.R_alloc | apply Kd.R_drewN | apply Kd.R_drew)); exact HO130.out) (Kd.R_base ho0) hb)
              have n3_ := Aside0.mk (Kd.R_lower (Kd.R_new' (Kd.R_new' (Kd.R_new' ho0 (Kd.R_lt (by (with_reducible repeat (first | apply Kd.R_alloc | apply Kd.R_drewN | apply Kd.R_drew)); exact HO_120001.out))) (Kd.R_lt (by (with_reducible repeat (first | apply Kd.R_alloc | apply Kd.R_drewN | apply Kd.R_drew)); exact HO_125001.out))) (Kd.R_lt (by (with_reducible repeat (first | apply Kd.R_alloc | apply Kd.R_drewN | apply Kd.R_drew)); exact HO130.out))) (below_size (by repeat (first | (with_reducible first | exact HB.out | apply below_alloc | apply pw_below_drewN | apply below_drew1 | refine below_set ?_ GE101.out | refine below_set ?_ GE102.out | refine below_set ?_ GE119.out | refine below_set ?_ GE124.out) | exact HB.out))))
              have n4_ := Aside0.mk (blk_below (g := gb101) (o := .cells #[.string a0_0, .slice A0_1 l0_1.length c0_1] 24 (0, 0)) (by (with_reducible repeat (first | refine blk_drewN ?_ _ | refine blk_drew ?_ | refine blk_alloc ?_ _)); exact BK101.out) hb)
              have n5_ := Aside0.mk (blk_below (g := gb102) (o := .cells #[.string a1_0, .slice A1_1 l1_1.length c1_1] 24 (0, 0)) (by (with_reducible repeat (first | refine blk_drewN ?_ _ | refine blk_drew ?_ | refine blk_alloc ?_ _)); exact BK102.out) hb)
              have n6_ := Aside0.mk (blk_below (g := gb119) (o := .cells #[.string t115, .slice Ao37 t116.length co37] 28 (0, 0)) (by (with_reducible repeat (first | refine blk_drewN ?_ _ | refine blk_drew ?_ | refine blk_alloc ?_ _)); exact BK119.out) hb)
              have n7_ := Aside0.mk (blk_below (g := gb124) (o := .cells #[.string t120, .slice Ao45 t121.length co45] 28 (0, 0)) (by (with_reducible repeat (first | refine blk_drewN ?_ _ | refine blk_drew ?_ | refine blk_alloc ?_ _)); exact BK124.out) hb)
              have n8_ := Aside0.mk (below_step (by repeat (first | (with_reducible first | exact HB.out | apply below_alloc | apply pw_below_drewN | apply below_drew1 | refine below_set ?_ GE101.out | refine below_set ?_ GE102.out | refine below_set ?_ GE119.out | refine below_set ?_ GE124.out) | exact HB.out)) hb)
              clear HO_120001
              clear HO_125001
              clear HO130
              clear BK101
              clear BK102
              clear BK119
              clear BK124
              clear HB
              have HO_120001 := n0_
              have HO_125001 := n1_
              have HO130 := n2_
              have HO135 := n3_
              have BK101 := n4_
              have BK102 := n5_
              have BK119 := n6_
              have BK124 := n7_
              have HB := n8_
              clear n0_ n1_ n2_ n3_ n4_ n5_ n6_ n7_ n8_
              (try clear hb)
              (try clear hb2)
              (try clear hk)
              (try clear hi)
              (try clear ho0)
              obtain ⟨Ao63, co63, eo63⟩ := Kd.R_slice HO135.out
              (first | subst eo63 | (injection eo63 with f1_ f2_ f3_; have f4_ := f1_.symm; have f5_ := f3_.symm; clear f1_ f2_ f3_; subst f4_; subst f5_))
              refine hK.out _ _ ⟨(blk_cell BK124.out 0).trans rfl, (blk_cell BK124.out 1).trans rfl, (blk_cell BK102.out 0).trans rfl, (blk_cell BK102.out 1).trans rfl⟩ (fun hHeld => ?_)
              clear hK K
              refine norm_ (a' := ?_) ?_ ?_
              rotate_left
              · show Act.put _ (some 55) _ = _
                simp only [Act.put, List.setIfInBounds_toArray, List.set_cons_zero, List.set_cons_succ, i64_w, i32_w]
                rfl
              refine one_ (i := 3) (N := some 56) #[true, true, true, true, false] rfl rfl (by kernel_rfl) (by decide) (fun K hK => ?_)
              refine goes_ Try.func16 (by kernel_rfl) rfl #[.agg #[.string t120, .slice Ao45 t121.length co45], .agg #[.string t132, .slice Ao63 t133.length co63]] (by rfl) rfl rfl (by (try simp only [List.map_toArray, List.map_cons, List.map_nil]); first | done | rfl | (simp only [List.length_drop, List.length_take]; rfl)) ?_
              with_reducible refine (laws_eqFeature.calls kj22 t120 _ _ t121 t132 _ _ t133 t136 _ ?side1 ?side2 ?side3 ?side4 A59.out).mono ?_
              (case side1 => repeat (first | exact (Kd.R_reads' HO_125001.out).2.2 | (with_reducible refine Kd.C_alloc ?_ _) | (with_reducible refine Kd.C_drewN ?_ _) | (with_reducible refine Kd.C_drew ?_)))
              (case side2 => exact (Kd.R_reads' HO_125001.out).2.1)
              (case side3 => repeat (first | exact (Kd.R_reads' HO135.out).2.2 | (with_reducible refine Kd.C_alloc ?_ _) | (with_reducible refine Kd.C_drewN ?_ _) | (with_reducible refine Kd.C_drew ?_)))
              (case side4 => exact (Kd.R_reads' HO135.out).2.1)
              rintro e w64 ⟨rfl, hb⟩
              refine ⟨_, rfl, ?_⟩
              have n0_ := Aside0.mk (Kd.R_below (by (with_reducible repeat (first | apply Kd.R_alloc | apply Kd.R_drewN | apply Kd.R_drew)); exact HO_120001.out) hb)
              have n1_ := Aside0.mk (Kd.R_below (by (with_reducible repeat (first | apply Kd.R_alloc | apply Kd.R_drewN | apply Kd.R_drew)); exact HO_125001.out) hb)
              have n2_ := Aside0.mk (Kd.R_below (by (with_reducible repeat (first | apply Kd.R_alloc | apply Kd.R_drewN | apply Kd.R_drew)); exact HO130.out) hb)
              have n3_ := Aside0.mk (Kd.R_below (by (with_reducible repeat (first | apply Kd.R_alloc | apply Kd.R_drewN | apply Kd.R_drew)); exact HO135.out) hb)
              have n4_ := Aside0.mk (blk_below (g := gb101) (o := .cells #[.string a0_0, .slice A0_1 l0_1.length c0_1] 24 (0, 0)) (by (with_reducible repeat (first | refine blk_drewN ?_ _ | refine blk_drew ?_ | refine blk_alloc ?_ _)); exact BK101.out) hb)
              have n5_ := Aside0.mk (blk_below (g := gb102) (o := .cells #[.string a1_0, .slice A1_1 l1_1.length c1_1] 24 (0, 0)) (by (with_reducible repeat (first | refine blk_drewN ?_ _ | refine blk_drew ?_ | refine blk_alloc ?_ _)); exact BK102.out) hb)
              have n6_ := Aside0.mk (blk_below (g := gb119) (o := .cells #[.string t115, .slice Ao37 t116.length co37] 28 (0, 0)) (by (with_reducible repeat (first | refine blk_drewN ?_ _ | refine blk_drew ?_ | refine blk_alloc ?_ _)); exact BK119.out) hb)
              have n7_ := Aside0.mk (blk_below (g := gb124) (o := .cells #[.string t120, .slice Ao45 t121.length co45] 28 (0, 0)) (by (with_reducible repeat (first | refine blk_drewN ?_ _ | refine blk_drew ?_ | refine blk_alloc ?_ _)); exact BK124.out) hb)
              have n8_ := Aside0.mk (below_step (by repeat (first | (with_reducible first | exact HB.out | apply below_alloc | apply pw_below_drewN | apply below_drew1 | refine below_set ?_ GE101.out | refine below_set ?_ GE102.out | refine below_set ?_ GE119.out | refine below_set ?_ GE124.out) | exact HB.out)) hb)
              clear HO_120001
              clear HO_125001
              clear HO130
              clear HO135
              clear BK101
              clear BK102
              clear BK119
              clear BK124
              clear HB
              have HO_120001 := n0_
              have HO_125001 := n1_
              have HO130 := n2_
              have HO135 := n3_
              have BK101 := n4_
              have BK102 := n5_
              have BK119 := n6_
              have BK124 := n7_
              have HB := n8_
              clear n0_ n1_ n2_ n3_ n4_ n5_ n6_ n7_ n8_
              (try clear hb)
              (try clear hb2)
              (try clear hk)
              (try clear hi)
              refine hK.out _ _ ⟨(blk_cell BK124.out 0).trans rfl, (blk_cell BK124.out 1).trans rfl, (blk_cell BK102.out 0).trans rfl, (blk_cell BK102.out 1).trans rfl⟩ (fun hHeld => ?_)
              clear hK K
              refine norm_ (a' := ?_) ?_ ?_
              rotate_left
              · show Act.put _ (some 56) _ = _
                simp only [Act.put, List.setIfInBounds_toArray, List.set_cons_zero, List.set_cons_succ, i64_w, i32_w]
                rfl
              refine pure_ (i := 4) (N := some 57) (v := ?_) (a' := ?_) #[true, true, true, true, true] rfl rfl (by kernel_rfl) (fun _ _ _ h => h) (Or.inl ⟨by rfl, ?_⟩) ?_ ?_
              rotate_left
              · intro w'
                go_simp
                with_reducible rfl
              rotate_left
              · simp only [Act.put, List.setIfInBounds_toArray, List.set_cons_zero, List.set_cons_succ, i64_w, i32_w]
                rfl
              refine done_ (by kernel_rfl) ?_
              go_upto_if 57 with (fail)
              have H := HC60.out
              clear HC60
              by_cases c65 : t136 = true
              · subst c65
                have H1 : (some true) = some r := by rw [if_pos rfl] at H; exact H
                clear H
                have H := H1
                clear H1
                obtain rfl := Option.some.inj H
                go_wp2
                go_ret
                exact ⟨by first | rfl | (simp [errW_none, errW_some] <;> rfl) | (simp [*, errW_none, errW_some] <;> rfl), by repeat (first | (with_reducible first | exact HB.out | apply below_alloc | apply pw_below_drewN | apply below_drew1 | refine below_set ?_ GE101.out | refine below_set ?_ GE102.out | refine below_set ?_ GE119.out | refine below_set ?_ GE124.out) | exact HB.out)⟩
              · replace c65 := Bool.eq_false_iff.mpr c65
                subst c65
                have H1 : (some false) = some r := by rw [if_neg (show ¬ (false = true) by decide)] at H; exact H
                clear H
                have H := H1
                clear H1
                obtain rfl := Option.some.inj H
                go_wp2
                go_ret
                exact ⟨by first | rfl | (simp [errW_none, errW_some] <;> rfl) | (simp [*, errW_none, errW_some] <;> rfl), by repeat (first | (with_reducible first | exact HB.out | apply below_alloc | apply pw_below_drewN | apply below_drew1 | refine below_set ?_ GE101.out | refine below_set ?_ GE102.out | refine below_set ?_ GE119.out | refine below_set ?_ GE124.out) | exact HB.out)⟩
            · replace c57 := Bool.eq_false_iff.mpr c57
              subst c57
              have H1 : (some false) = some r := by rw [if_neg (show ¬ (false = true) by decide)] at H; exact H
              clear H
              have H := H1
              clear H1
              obtain rfl := Option.some.inj H
              go_wp2
              go_ret
              exact ⟨by first | rfl | (simp [errW_none, errW_some] <;> rfl) | (simp [*, errW_none, errW_some] <;> rfl), by repeat (first | (with_reducible first | exact HB.out | apply below_alloc | apply pw_below_drewN | apply below_drew1 | refine below_set ?_ GE101.out | refine below_set ?_ GE102.out | refine below_set ?_ GE119.out | refine below_set ?_ GE124.out) | exact HB.out)⟩

end Go.Proofs.Yteafahnopgmgoaa.Q
namespace Go.Proofs.Yteafahnopgmgoaa.Q
open Go.RowKit Go.Proofs.YteafahnopgmgoaaW.PrintWords Go.Proofs.YteafahnopgmgoaaW.PrintLast Go.Proofs.YteafahnopgmgoaaW.PrintMore
attribute [local go_sem] max2_int min2_int max_two min_two max_three min_three max_four min_four   -- for this text's walks alone
set_option linter.unusedVariables false
set_option linter.unusedSimpArgs false

/-- THE ONE PURE STATEMENT of laws_FnExactFeatureDistance. -/
def laws_FnExactFeatureDistance.Pure : Prop := ∀ (x0 : S24) (x1 : S24), W24 x0 → W24 x1 → ∃ k, laws_FnExactFeatureDistance.f k x0.f0 x0.f1 x1.f0 x1.f1 = some true
end Go.Proofs.Yteafahnopgmgoaa.Q
/- Own lemmas: one feature (valid, as the reference and as the program test it); the distance of two features. -/
namespace Go.Proofs.Yteafahnopgmgoaa.Q
open Go.RowKit Go.Proofs.YteafahnopgmgoaaW.PrintWords Go.Proofs.YteafahnopgmgoaaW.PrintLast Go.Proofs.YteafahnopgmgoaaW.PrintMore
def okB (x : Int) : Bool := decide (0 ≤ x) && decide (x ≤ 255)
theorem rd_nat (l : List Int) (i : Nat) (h : i < l.length) : rd l (i : Int) = l[i] := by unfold rd; simp [List.getD, h]
theorem one_loop (x : S28) (hl : x.f1.length < 4611686018427387904) : ∀ (d i : Nat), i + d = x.f1.length → ∀ k, d < k → spec_l26One.l0 k [x] i = some ((x.f1.drop i).all okB) := by
  intro d
  have hrd : rd_T28 [x] 0 = x := rfl
  induction d with
  | zero =>
    intro i h k hk
    obtain ⟨k, rfl⟩ : ∃ m, k = m + 1 := ⟨k - 1, by omega⟩
    simp only [spec_l26One.l0, hrd]
    rw [if_pos (by simp), if_neg (by omega), List.drop_of_length_le (by omega)]
    rfl
  | succ d ih =>
    intro i h k hk
    obtain ⟨k, rfl⟩ : ∃ m, k = m + 1 := ⟨k - 1, by omega⟩
    simp only [spec_l26One.l0, hrd]
    rw [if_pos (by simp), if_pos (by omega), if_pos (by omega), rd_nat _ _ (by omega), in_f]
    simp only [Option.bind_some]
    rw [w64 (by omega) (by omega), show (i : Int) + 1 = ((i + 1 : Nat) : Int) by omega, ih (i + 1) (by omega) k (by omega), List.drop_eq_getElem_cons (show i < x.f1.length by omega), List.all_cons, ite_and]
    rfl
theorem index_loop (l : List Int) (hl : l.length < 4611686018427387904) : ∀ (d i : Nat), i + d = l.length → ∃ r, decide (r ≥ 0) = !((l.drop i).all okB) ∧ ∀ k, d < k → slices_IndexFunc_int64_int64.l0 k l (l.length : Int) i = some r := by
  intro d
  induction d with
  | zero =>
    intro i h
    refine ⟨-1, by rw [List.drop_of_length_le (by omega)]; rfl, fun k hk => ?_⟩
    obtain ⟨k, rfl⟩ : ∃ m, k = m + 1 := ⟨k - 1, by omega⟩
    simp only [slices_IndexFunc_int64_int64.l0]
    rw [if_neg (by omega)]
  | succ d ih =>
    intro i h
    cases hc : okB l[i]
    · refine ⟨i, by rw [List.drop_eq_getElem_cons (show i < l.length by omega), List.all_cons, hc]; simp, fun k hk => ?_⟩
      obtain ⟨k, rfl⟩ : ∃ m, k = m + 1 := ⟨k - 1, by omega⟩
      simp only [slices_IndexFunc_int64_int64.l0, impl_ValidFeature_1.f]
      rw [if_pos (by omega), if_pos (by omega), if_pos (by omega), rd_nat _ _ (by omega), within_f]
      simp only [Option.bind_some]
      rw [show (decide (0 ≤ l[i]) && decide (l[i] ≤ 255)) = false from hc]
      simp
    · obtain ⟨r, hr, hk0⟩ := ih (i + 1) (by omega)
      refine ⟨r, by rw [List.drop_eq_getElem_cons (show i < l.length by omega), List.all_cons, hc, hr]; simp, fun k hk => ?_⟩
      obtain ⟨k, rfl⟩ : ∃ m, k = m + 1 := ⟨k - 1, by omega⟩
      simp only [slices_IndexFunc_int64_int64.l0, impl_ValidFeature_1.f]
      rw [if_pos (by omega), if_pos (by omega), if_pos (by omega), rd_nat _ _ (by omega), within_f]
      simp only [Option.bind_some]
      rw [show (decide (0 ≤ l[i]) && decide (l[i] ≤ 255)) = true from hc]
      simp only [Bool.not_true, Bool.false_eq_true, if_false]
      rw [w64 (by omega) (by omega), show (i : Int) + 1 = ((i + 1 : Nat) : Int) by omega, hk0 k (by omega)]
theorem valid_ev (a : ByteArray) (l : List Int) : ∃ b, (b = true → l.length = 6 ∧ l.all okB = true) ∧ ∀ k, 20 < k → spec_l26One.f k [(⟨a, l⟩ : S28)] = some b ∧ impl_ValidFeature.f k a l = some b := by
  obtain ⟨b, hb⟩ := name_ev a
  have hrd : rd_T28 [(⟨a, l⟩ : S28)] 0 = ⟨a, l⟩ := rfl
  cases b with
  | false =>
    refine ⟨false, fun h => (by cases h), fun k hk => ⟨?_, ?_⟩⟩
    · unfold spec_l26One.f
      rw [if_pos (by simp), hrd, name_same, hb k (by omega)]
      obtain ⟨k, rfl⟩ : ∃ m, k = m + 1 := ⟨k - 1, by omega⟩
      simp [spec_l26One.j0]
    · unfold impl_ValidFeature.f
      rw [hb k (by omega)]
      simp
  | true =>
    by_cases h6 : l.length = 6
    · obtain ⟨r, hr, hk0⟩ := index_loop l (by omega) 6 0 (by omega)
      rw [List.drop_zero] at hr
      refine ⟨l.all okB, fun h => ⟨h6, h⟩, fun k hk => ⟨?_, ?_⟩⟩
      · unfold spec_l26One.f
        rw [if_pos (by simp), hrd, name_same, hb k (by omega)]
        obtain ⟨k, rfl⟩ : ∃ m, k = m + 1 := ⟨k - 1, by omega⟩
        have := one_loop ⟨a, l⟩ (by simp only []; omega) 6 0 (by simp only []; omega) k (by omega)
        simp only [List.drop_zero] at this
        simp [spec_l26One.j0, h6]
        simpa using this
      · unfold impl_ValidFeature.f slices_ContainsFunc_int64_int64.f slices_IndexFunc_int64_int64.f
        rw [hb k (by omega)]
        have := hk0 k (by omega)
        simp only [Option.bind_some, if_true]
        rw [if_pos (by omega), show ((0 : Int)) = ((0 : Nat) : Int) from rfl, this]
        simp only [Option.bind_some]
        rw [show decide (r ≥ ((0 : Nat) : Int)) = decide (r ≥ 0) from rfl, hr]
        simp
    · refine ⟨false, fun h => (by cases h), fun k hk => ⟨?_, ?_⟩⟩
      · unfold spec_l26One.f
        rw [if_pos (by simp), hrd, name_same, hb k (by omega)]
        obtain ⟨k, rfl⟩ : ∃ m, k = m + 1 := ⟨k - 1, by omega⟩
        simp [spec_l26One.j0, show ¬ (l.length : Int) = 6 by omega]
      · unfold impl_ValidFeature.f
        rw [hb k (by omega)]
        simp only [Option.bind_some, if_true]
        rw [if_neg (by omega)]
theorem away_ev (a : ByteArray) (l : List Int) (b : ByteArray) (m : List Int) (hl : l.length = 6) (hm : m.length = 6) (h1 : l.all okB = true) (h2 : m.all okB = true) : ∃ v, ∀ k, 10 < k → spec_l26Away.f k [(⟨a, l⟩ : S28)] [(⟨b, m⟩ : S28)] = some v ∧ impl_featureDistance.f k a l b m = some v := by
  have hr1 : rd_T28 [(⟨a, l⟩ : S28)] 0 = ⟨a, l⟩ := rfl
  have hr2 : rd_T28 [(⟨b, m⟩ : S28)] 0 = ⟨b, m⟩ := rfl
  have go : ∀ (d i : Nat) (c : Int), i + d = 6 → ∃ v, ∀ k, d < k → spec_l26Away.l0 k [(⟨a, l⟩ : S28)] [(⟨b, m⟩ : S28)] c i = some v ∧ impl_featureDistance.l0 k c l (l.length : Int) i b m = some v := by
    intro d
    induction d with
    | zero =>
      intro i c h
      refine ⟨c, fun k hk => ?_⟩
      obtain ⟨k, rfl⟩ : ∃ m, k = m + 1 := ⟨k - 1, by omega⟩
      simp only [spec_l26Away.l0, impl_featureDistance.l0]
      rw [if_neg (by omega), if_neg (by omega)]
      exact ⟨rfl, rfl⟩
    | succ d ih =>
      intro i c h
      have g1 : 0 ≤ l[i] ∧ l[i] ≤ 255 := by simpa [okB] using (List.all_eq_true.mp h1) l[i] (List.getElem_mem _)
      have g2 : 0 ≤ m[i] ∧ m[i] ≤ 255 := by simpa [okB] using (List.all_eq_true.mp h2) m[i] (List.getElem_mem _)
      have key : spec_l00Max.f (wrap64 (l[i] - m[i])) (wrap64 (m[i] - l[i])) = impl_absolute.f (wrap64 (l[i] - m[i])) := by
        unfold impl_absolute.f spec_l00Max.f
        rw [w64 (x := l[i] - m[i]) (by omega) (by omega), w64 (x := m[i] - l[i]) (by omega) (by omega), w64 (by omega) (by omega)]
        unfold mx
        split <;> split <;> first | rfl | (congr 1; omega) | omega
      obtain ⟨t, ht⟩ : ∃ t, impl_absolute.f (wrap64 (l[i] - m[i])) = some t := ⟨_, rfl⟩
      obtain ⟨v, hv⟩ := ih (i + 1) (wrap64 (c + t)) (by omega)
      refine ⟨v, fun k hk => ?_⟩
      obtain ⟨k, rfl⟩ : ∃ m, k = m + 1 := ⟨k - 1, by omega⟩
      obtain ⟨e1, e2⟩ := hv k (by omega)
      simp only [spec_l26Away.l0, impl_featureDistance.l0, hr1, hr2]
      constructor
      · rw [if_pos (by omega), if_pos (by simp), if_pos (by omega), if_pos (by omega), if_pos (by simp), if_pos (by omega), rd_nat _ _ (by omega), rd_nat _ _ (by omega), key, ht]
        simp only [Option.bind_some]
        rw [w64 (x := (i : Int) + 1) (by omega) (by omega), show (i : Int) + 1 = ((i + 1 : Nat) : Int) by omega, e1]
      · rw [if_pos (by omega), if_pos (by omega), if_pos (by omega), if_pos (by omega), rd_nat _ _ (by omega), rd_nat _ _ (by omega), ht]
        simp only [Option.bind_some]
        rw [w64 (x := (i : Int) + 1) (by omega) (by omega), show (i : Int) + 1 = ((i + 1 : Nat) : Int) by omega, e2]
  obtain ⟨v, hv⟩ := go 6 0 0 (by omega)
  exact ⟨v, fun k hk => hv k (by omega)⟩
theorem toInt64S_ev (l : List Int) (hl : l.length ≤ 35184372088832) : ∀ k, l.length < k → laws_toInt64S.f k l = some l := by
  have go : ∀ (d k : Nat) (xs : List Int) (i : Nat), i + d = l.length → d < k → xs.length = l.length → xs.take i = l.take i → laws_toInt64S.l0 k l xs i = some l := by
    intro d
    induction d with
    | zero =>
      intro k xs i h1 hk h2 h3
      obtain ⟨k, rfl⟩ : ∃ m, k = m + 1 := ⟨k - 1, by omega⟩
      simp only [laws_toInt64S.l0]
      rw [if_neg (by omega)]
      rw [List.take_of_length_le (by omega), List.take_of_length_le (by omega)] at h3
      rw [h3]
    | succ d ih =>
      intro k xs i h1 hk h2 h3
      obtain ⟨k, rfl⟩ : ∃ m, k = m + 1 := ⟨k - 1, by omega⟩
      simp only [laws_toInt64S.l0]
      rw [if_pos (by omega), if_pos (by omega), if_pos (by omega), w64 (by omega) (by omega), Int.toNat_natCast, show (i : Int) + 1 = ((i + 1 : Nat) : Int) by omega]
      apply ih k _ (i + 1) (by omega) (by omega) (by rw [List.length_set]; exact h2)
      rw [set_drop_take _ _ _ (by omega), h3, rd_nat _ _ (by omega), List.take_succ_eq_append_getElem (by omega)]
  intro k hk
  unfold laws_toInt64S.f
  rw [if_pos (by omega), if_pos (by simpa using hl)]
  exact go l.length k _ 0 (by omega) hk (by simp) (by simp)
theorem szInt_facts {l : List Int} {c z : Int} (hl : (l.length : Int) ≤ 9223372036854775807) (hc : c ≤ 1048576) (h : laws_szInt64S.f l c = some z) (hz : ¬ z < 0) (h0 : 0 ≤ c) : (l.length : Int) ≤ c ∧ z = c - l.length := by
  unfold laws_szInt64S.f at h
  rw [w64 (by omega) (by omega)] at h
  by_cases hn : c - (l.length : Int) < 0
  · rw [if_pos hn] at h; injection h with h; omega
  · rw [if_neg hn] at h; injection h with h; omega
theorem szFeature_facts {a : ByteArray} {l : List Int} {c z : Int} (ha : (a.size : Int) ≤ 9223372036854775807) (hl : (l.length : Int) ≤ 9223372036854775807) (h0 : 0 ≤ c) (hc : c ≤ 1048576) (h : laws_szFeature.f a l c = some z) (hz : ¬ z < 0) : (a.size : Int) + l.length ≤ c ∧ z = c - a.size - l.length := by
  unfold laws_szFeature.f at h
  rw [w64 (by omega) (by omega)] at h
  by_cases hn : c - (a.size : Int) < 0
  · rw [if_pos hn] at h; injection h with h; omega
  · rw [if_neg hn] at h
    obtain ⟨t, ht⟩ : ∃ t, laws_szInt64S.f l (c - a.size) = some t := by unfold laws_szInt64S.f; split <;> exact ⟨_, rfl⟩
    rw [ht] at h
    simp only [Option.bind_some] at h
    by_cases hm : t < 0
    · rw [if_pos hm] at h; injection h with h; omega
    · rw [if_neg hm] at h; injection h with h
      have := szInt_facts hl (by omega) ht hm (by omega)
      omega
theorem szFeature_ev (a : ByteArray) (l : List Int) (c : Int) : ∃ z, laws_szFeature.f a l c = some z := by
  unfold laws_szFeature.f laws_szInt64S.f
  split
  · exact ⟨_, rfl⟩
  · split
    · simp
    · simp only [Option.bind_some]; split <;> exact ⟨_, rfl⟩
theorem toFeature_ev (a : ByteArray) (l : List Int) (hl : l.length ≤ 35184372088832) : ∀ k, l.length < k → laws_toFeature.f k a l = some (a, l) := by
  intro k hk; unfold laws_toFeature.f; rw [toInt64S_ev l hl k hk]; rfl
theorem eqFeature_ev (a : ByteArray) (l : List Int) (hl : l.length ≤ 35184372088832) : ∀ k, l.length < k → laws_eqFeature.f k a l a l = some true := by
  intro k hk; unfold laws_eqFeature.f; rw [if_pos rfl, eqInt64S_ev l (by omega) k hk]; rfl
theorem law_FeatureDistance : laws_FnExactFeatureDistance.Pure := by
  intro x y hx hy
  have hM : maxLen = 9223372036854775807 := by decide
  obtain ⟨z, hz⟩ := szFeature_ev x.f0 x.f1 1048576
  obtain ⟨z2, hz2⟩ := szFeature_ev y.f0 y.f1 z
  by_cases c1 : z < 0
  · refine ⟨0, ?_⟩
    unfold laws_FnExactFeatureDistance.f
    rw [hz]; simp only [Option.bind_some]; rw [if_pos c1]
  by_cases c2 : z2 < 0
  · refine ⟨0, ?_⟩
    unfold laws_FnExactFeatureDistance.f
    rw [hz]; simp only [Option.bind_some]; rw [if_neg c1, hz2]; simp only [Option.bind_some]; rw [if_pos c2]
  have hx1 := hx.1
  have hx2 := hx.2.1
  have hy1 := hy.1
  have hy2 := hy.2.1
  rw [hM] at hx1 hx2 hy1 hy2
  have s1 := szFeature_facts (by omega) (by omega) (by omega) (by omega) hz c1
  have s2 := szFeature_facts (by omega) (by omega) (by omega) (by omega) hz2 c2
  refine ⟨2000000, ?_⟩
  unfold laws_FnExactFeatureDistance.f
  rw [hz]; simp only [Option.bind_some]; rw [if_neg c1, hz2]; simp only [Option.bind_some]; rw [if_neg c2, toFeature_ev _ _ (by omega) _ (by omega)]
  simp only [Option.bind_some]
  rw [toFeature_ev _ _ (by omega) _ (by omega)]
  simp only [Option.bind_some]
  obtain ⟨v, hv1, hv2⟩ : ∃ v, spec_FeatureDistance.f 2000000 x.f0 x.f1 y.f0 y.f1 = some v ∧ impl_FeatureDistance.f 2000000 x.f0 x.f1 y.f0 y.f1 = some v := by
    unfold spec_FeatureDistance.f impl_FeatureDistance.f
    obtain ⟨b, hb, hk⟩ := valid_ev x.f0 x.f1
    obtain ⟨c, hc, hk2⟩ := valid_ev y.f0 y.f1
    obtain ⟨e1, e2⟩ := hk 2000000 (by omega)
    obtain ⟨e3, e4⟩ := hk2 2000000 (by omega)
    rw [e1, e2, e3, e4]
    cases b with
    | false => exact ⟨(0, 1), by simp, by simp⟩
    | true =>
      cases c with
      | false => exact ⟨(0, 1), by simp, by simp⟩
      | true =>
        obtain ⟨v, hv⟩ := away_ev x.f0 x.f1 y.f0 y.f1 (hb rfl).1 (hc rfl).1 (hb rfl).2 (hc rfl).2
        obtain ⟨e5, e6⟩ := hv 2000000 (by omega)
        rw [e5, e6]
        exact ⟨(v, 0), by simp, by simp⟩
  rw [hv1, hv2]
  simp only [Option.bind_some, if_true, bne_self_eq_false]
  simp only [laws_FnExactFeatureDistance.j0, Bool.false_eq_true, if_false]
  rw [toFeature_ev _ _ (by omega) _ (by omega), toFeature_ev _ _ (by omega) _ (by omega)]
  simp only [Option.bind_some]
  rw [eqFeature_ev _ _ (by omega) _ (by omega), eqFeature_ev _ _ (by omega) _ (by omega)]
  simp
end Go.Proofs.Yteafahnopgmgoaa.Q
namespace Go.Proofs.Yteafahnopgmgoaa.Q
open Go.RowKit Go.Proofs.YteafahnopgmgoaaW.PrintWords Go.Proofs.YteafahnopgmgoaaW.PrintLast Go.Proofs.YteafahnopgmgoaaW.PrintMore
attribute [local go_sem] max2_int min2_int max_two min_two max_three min_three max_four min_four   -- for this text's walks alone
set_option linter.unusedVariables false
set_option linter.unusedSimpArgs false

/-! ### spec_ValidFeatures: function 18 -/
def spec_ValidFeatures.f (k : Nat) (l0 : List (S28)) : Option (Bool) := (spec_l26Ok.f k l0).bind fun t101 => (some t101)
theorem spec_ValidFeatures.mono : ∀ a0 k, LeO (spec_ValidFeatures.f k a0) (spec_ValidFeatures.f (k + 1) a0) := by
  intro a0 k
  unfold spec_ValidFeatures.f
  repeat' first
      | (with_reducible exact spec_l26Ok.mono _ _)
      | (with_reducible exact LeO.refl _)
      | (with_reducible exact LeO.none _)
      | (with_reducible refine LeO.ite ?_ ?_)
      | (with_reducible refine LeO.bind ?_ (fun _ => ?_))
      | exact spec_l26Ok.mono _ _
      | exact LeO.none _
      | refine LeO.ite ?_ ?_
      | refine LeO.bind ?_ (fun _ => ?_)
set_option maxHeartbeats 8000000 in
set_option maxRecDepth 100000 in
theorem spec_ValidFeatures.calls (k : Nat) (A0 : Option Addr) (c0 : Nat) (l0 : List (S28)) (r : Bool) (w : World) (hr0 : Kd.C k28 w A0 l0.length l0) (hc0 : l0.length ≤ c0) (h : spec_ValidFeatures.f k l0 = some r) :
    Calls Try.prog 18 #[.slice A0 l0.length c0] w fun e w' => e = .returned (.bool r) ∧ Drawn0 w w' := by
  have HR0 := Aside0.mk hr0
  have HC0 := Aside0.mk hc0
  clear hr0 hc0
  have H : ((spec_l26Ok.f k l0).bind fun t101 => (some t101)) = some r := h
  clear h
  replace H := Option.bind_eq_some_iff.mp H
  obtain ⟨t101, A20, H⟩ := H
  replace H : (some t101) = some r := H
  have A2 := Aside0.mk A20
  clear A20
  obtain rfl := Option.some.inj H
  go_enter Try.func18, Try.ntmps18
  go_wp2_with (first | ((with_reducible refine gate_callee (f := 54) rfl ?_); refine goesL_ (some 4) rfl rfl Try.func54 (by kernel_rfl) rfl #[.slice A0 l0.length c0] rfl (by (try simp only [List.map_toArray, List.map_cons, List.map_nil]); first | done | rfl | (simp only [List.length_drop, List.length_take]; rfl)) ?_; (with_reducible refine (spec_l26Ok.calls k _ _ l0 t101 _ ?side1 ?side2 A2.out).mono ?_); (case side1 => repeat (first | exact HR0.out | (with_reducible refine Kd.C_alloc ?_ _) | (with_reducible refine Kd.C_drewN ?_ _) | (with_reducible refine Kd.C_drew ?_))); (case side2 => exact HC0.out); rintro e w' ⟨rfl, ⟨nd, rfl⟩⟩; refine ⟨_, rfl, ?_⟩))
  go_ret
  exact ⟨by first | rfl | (simp; done) | (simp [*]; done), by repeat (first | exact Drawn0.refl _ | apply Drawn0.step)⟩

end Go.Proofs.Yteafahnopgmgoaa.Q
namespace Go.Proofs.Yteafahnopgmgoaa.Q
open Go.RowKit Go.Proofs.YteafahnopgmgoaaW.PrintWords Go.Proofs.YteafahnopgmgoaaW.PrintLast Go.Proofs.YteafahnopgmgoaaW.PrintMore
attribute [local go_sem] max2_int min2_int max_two min_two max_three min_three max_four min_four   -- for this text's walks alone
set_option linter.unusedVariables false
set_option linter.unusedSimpArgs false

/-! ### laws_FnExactValidFeatures: function 4 -/
def laws_FnExactValidFeatures.f (k : Nat) (l0 : List (S24)) : Option (Bool) := (laws_szFeatureS.f k l0 1048576).bind fun t101 => (if t101 < 0 then (some true) else ((laws_toFeatureS.f k l0).bind fun t102 => ((spec_ValidFeatures.f k t102).bind fun t105 => ((laws_toFeatureS.f k l0).bind fun t106 => ((impl_ValidFeatures.f k t106).bind fun t109 => (if (t109 != t105) = true then (some false) else ((laws_toFeatureS.f k l0).bind fun t110 => ((laws_eqFeatureS.f k t106 t110).bind fun t113 => (if t113 = true then (some true) else (some false))))))))))
theorem laws_FnExactValidFeatures.mono : ∀ a0 k, LeO (laws_FnExactValidFeatures.f k a0) (laws_FnExactValidFeatures.f (k + 1) a0) := by
  intro a0 k
  unfold laws_FnExactValidFeatures.f
  repeat' first
      | (with_reducible exact impl_ValidFeatures.mono _ _)
      | (with_reducible exact laws_eqFeatureS.mono _ _ _)
      | (with_reducible exact laws_szFeatureS.mono _ _ _)
      | (with_reducible exact laws_toFeatureS.mono _ _)
      | (with_reducible exact spec_ValidFeatures.mono _ _)
      | (with_reducible exact LeO.refl _)
      | (with_reducible exact LeO.none _)
      | (with_reducible refine LeO.ite ?_ ?_)
      | (with_reducible refine LeO.bind ?_ (fun _ => ?_))
      | exact impl_ValidFeatures.mono _ _
      | exact laws_eqFeatureS.mono _ _ _
      | exact laws_szFeatureS.mono _ _ _
      | exact laws_toFeatureS.mono _ _
      | exact spec_ValidFeatures.mono _ _
      | exact LeO.none _
      | refine LeO.ite ?_ ?_
      | refine LeO.bind ?_ (fun _ => ?_)
set_option maxHeartbeats 8000000 in
set_option maxRecDepth 100000 in
theorem laws_FnExactValidFeatures.calls (k : Nat) (A0 : Option Addr) (c0 : Nat) (l0 : List (S24)) (r : Bool) (w : World) (hr0 : Kd.C k24 w A0 l0.length l0) (hc0 : l0.length ≤ c0) (h : laws_FnExactValidFeatures.f k l0 = some r) :
    Calls Try.prog 4 #[.slice A0 l0.length c0] w fun e w' => e = .returned (.bool r) ∧ Below w.heap.size w w' := by
  have HR0 := Aside0.mk hr0
  have HC0 := Aside0.mk hc0
  clear hr0 hc0
  have HB := Aside0.mk (Below.refl w.heap.size w)
  have H : ((laws_szFeatureS.f k l0 1048576).bind fun t101 => (if t101 < 0 then (some true) else ((laws_toFeatureS.f k l0).bind fun t102 => ((spec_ValidFeatures.f k t102).bind fun t105 => ((laws_toFeatureS.f k l0).bind fun t106 => ((impl_ValidFeatures.f k t106).bind fun t109 => (if (t109 != t105) = true then (some false) else ((laws_toFeatureS.f k l0).bind fun t110 => ((laws_eqFeatureS.f k t106 t110).bind fun t113 => (if t113 = true then (some true) else (some false))))))))))) = some r := h
  clear h
  replace H := Option.bind_eq_some_iff.mp H
  obtain ⟨t101, A20, H⟩ := H
  replace H : (if t101 < 0 then (some true) else ((laws_toFeatureS.f k l0).bind fun t102 => ((spec_ValidFeatures.f k t102).bind fun t105 => ((laws_toFeatureS.f k l0).bind fun t106 => ((impl_ValidFeatures.f k t106).bind fun t109 => (if (t109 != t105) = true then (some false) else ((laws_toFeatureS.f k l0).bind fun t110 => ((laws_eqFeatureS.f k t106 t110).bind fun t113 => (if t113 = true then (some true) else (some false)))))))))) = some r := H
  have A2 := Aside0.mk A20
  clear A20
  have HC3 := Aside0.mk H
  clear H
  go_enter Try.func4, Try.ntmps4
  go_upto_if 11 with (first | ((with_reducible refine gate_callee (f := 17) rfl ?_); refine goesL_ (some 9) rfl rfl Try.func17 (by kernel_rfl) rfl #[.slice A0 l0.length c0, .int .i64 1048576] rfl (by (try simp only [List.map_toArray, List.map_cons, List.map_nil]); first | done | rfl | (simp only [List.length_drop, List.length_take]; rfl)) ?_; (with_reducible refine (laws_szFeatureS.calls k _ _ l0 1048576 t101 _ ?side1 ?side2 A2.out).mono ?_); (case side1 => repeat (first | exact HR0.out | (with_reducible refine Kd.C_alloc ?_ _) | (with_reducible refine Kd.C_drewN ?_ _) | (with_reducible refine Kd.C_drew ?_))); (case side2 => exact HC0.out); rintro e w4 ⟨rfl, hb⟩; refine ⟨_, rfl, ?_⟩; have n0_ := Aside0.mk (below_step (by repeat (first | (with_reducible first | exact HB.out | apply below_alloc | apply pw_below_drewN | apply below_drew1) | exact HB.out)) hb); clear HB; have HB := n0_; clear n0_; (try clear hb); (try clear hb2); (try clear hk); (try clear hi)))
  (try simp only [Act.put, List.setIfInBounds_toArray, List.set_cons_zero, List.set_cons_succ])
  have H := HC3.out
  clear HC3
  by_cases c5 : t101 < 0
  · rw [if_pos c5] at H
    have c5b0 : decide (t101 < 0) = true := decide_eq_true c5
    clear c5
    (first | rw [c5b0] | (simp only [i64_w, i32_w]; rw [c5b0]) | (simp only [c5b2, Bool.not_true, Bool.not_false]) | (simp only [c5b1, Bool.not_true, Bool.not_false]) | (simp only [c5b0, Bool.not_true, Bool.not_false]) | skip)
    obtain rfl := Option.some.inj H
    go_wp2
    go_ret
    exact ⟨by first | rfl | (simp [errW_none, errW_some] <;> rfl) | (simp [*, errW_none, errW_some] <;> rfl), by repeat (first | (with_reducible first | exact HB.out | apply below_alloc | apply pw_below_drewN | apply below_drew1) | exact HB.out)⟩
  · rw [if_neg c5] at H
    have c5b0 : decide (t101 < 0) = false := decide_eq_false c5
    clear c5
    (first | rw [c5b0] | (simp only [i64_w, i32_w]; rw [c5b0]) | (simp only [c5b2, Bool.not_true, Bool.not_false]) | (simp only [c5b1, Bool.not_true, Bool.not_false]) | (simp only [c5b0, Bool.not_true, Bool.not_false]) | skip)
    replace H := Option.bind_eq_some_iff.mp H
    obtain ⟨t102, A60, H⟩ := H
    replace H : ((spec_ValidFeatures.f k t102).bind fun t105 => ((laws_toFeatureS.f k l0).bind fun t106 => ((impl_ValidFeatures.f k t106).bind fun t109 => (if (t109 != t105) = true then (some false) else ((laws_toFeatureS.f k l0).bind fun t110 => ((laws_eqFeatureS.f k t106 t110).bind fun t113 => (if t113 = true then (some true) else (some false)))))))) = some r := H
    have A6 := Aside0.mk A60
    clear A60
    replace H := Option.bind_eq_some_iff.mp H
    obtain ⟨t105, A70, H⟩ := H
    replace H : ((laws_toFeatureS.f k l0).bind fun t106 => ((impl_ValidFeatures.f k t106).bind fun t109 => (if (t109 != t105) = true then (some false) else ((laws_toFeatureS.f k l0).bind fun t110 => ((laws_eqFeatureS.f k t106 t110).bind fun t113 => (if t113 = true then (some true) else (some false))))))) = some r := H
    have A7 := Aside0.mk A70
    clear A70
    replace H := Option.bind_eq_some_iff.mp H
    obtain ⟨t106, A80, H⟩ := H
    replace H : ((impl_ValidFeatures.f k t106).bind fun t109 => (if (t109 != t105) = true then (some false) else ((laws_toFeatureS.f k l0).bind fun t110 => ((laws_eqFeatureS.f k t106 t110).bind fun t113 => (if t113 = true then (some true) else (some false)))))) = some r := H
    have A8 := Aside0.mk A80
    clear A80
    replace H := Option.bind_eq_some_iff.mp H
    obtain ⟨t109, A90, H⟩ := H
    replace H : (if (t109 != t105) = true then (some false) else ((laws_toFeatureS.f k l0).bind fun t110 => ((laws_eqFeatureS.f k t106 t110).bind fun t113 => (if t113 = true then (some true) else (some false))))) = some r := H
    have A9 := Aside0.mk A90
    clear A90
    have HC10 := Aside0.mk H
    clear H
    go_upto_if 21 with (first | ((with_reducible refine gate_callee (f := 19) rfl ?_); refine goesL_ (some 13) rfl rfl Try.func19 (by kernel_rfl) rfl #[.slice A0 l0.length c0] rfl (by (try simp only [List.map_toArray, List.map_cons, List.map_nil]); first | done | rfl | (simp only [List.length_drop, List.length_take]; rfl)) ?_; (with_reducible refine (laws_toFeatureS.calls k _ _ l0 t102 _ ?side1 ?side2 A6.out).mono ?_); (case side1 => repeat (first | exact (Kd.C_below HR0.out (by repeat (first | (with_reducible first | exact HB.out | apply below_alloc | apply pw_below_drewN | apply below_drew1) | exact HB.out))) | (with_reducible refine Kd.C_alloc ?_ _) | (with_reducible refine Kd.C_drewN ?_ _) | (with_reducible refine Kd.C_drew ?_))); (case side2 => exact HC0.out); rintro e w11 ⟨v103, rfl, ho0, hb⟩; refine ⟨_, rfl, ?_⟩; have n0_ := Aside0.mk (Kd.S_lower ho0 (below_size (by repeat (first | (with_reducible first | exact HB.out | apply below_alloc | apply pw_below_drewN | apply below_drew1) | exact HB.out)))); have n1_ := Aside0.mk (below_step (by repeat (first | (with_reducible first | exact HB.out | apply below_alloc | apply pw_below_drewN | apply below_drew1) | exact HB.out)) hb); clear HB; have HO104 := n0_; have HB := n1_; clear n0_ n1_; (try clear hb); (try clear hb2); (try clear hk); (try clear hi); (try clear ho0); obtain ⟨Ao12, co12, eo12⟩ := Kd.S_slice HO104.out; subst eo12) | ((with_reducible refine gate_callee (f := 18) rfl ?_); refine goesL_ (some 14) rfl rfl Try.func18 (by kernel_rfl) rfl #[.slice Ao12 t102.length co12] rfl (by (try simp only [List.map_toArray, List.map_cons, List.map_nil]); first | done | rfl | (simp only [List.length_drop, List.length_take]; rfl)) ?_; (with_reducible refine (spec_ValidFeatures.calls k _ _ t102 t105 _ ?side1 ?side2 A7.out).mono ?_); (case side1 => repeat (first | exact (Kd.S_reads' HO104.out).2.2 | (with_reducible refine Kd.C_alloc ?_ _) | (with_reducible refine Kd.C_drewN ?_ _) | (with_reducible refine Kd.C_drew ?_))); (case side2 => exact (Kd.S_reads' HO104.out).2.1); rintro e w' ⟨rfl, ⟨nd, rfl⟩⟩; refine ⟨_, rfl, ?_⟩; (try (rw [drewN_self w11]; generalize hq_ : World.drewN w11 _ = w11; have n0_ : Aside0 (Kd.S k28 28 w11 w.heap.size (fun _ => True) (.slice Ao12 t102.length co12) t102) := ⟨by rw [← hq_]; exact (by (with_reducible repeat (first | apply Kd.S_alloc | apply Kd.S_drewN | apply Kd.S_drew)); exact HO104.out)⟩; have n1_ : Aside0 (Below w.heap.size w w11) := ⟨by rw [← hq_]; exact (by repeat (first | (with_reducible first | exact HB.out | apply below_alloc | apply pw_below_drewN | apply below_drew1) | exact HB.out))⟩; clear HO104 HB hq_; have HO104 := n0_; have HB := n1_; clear n0_ n1_))) | ((with_reducible refine gate_callee (f := 19) rfl ?_); refine goesL_ (some 16) rfl rfl Try.func19 (by kernel_rfl) rfl #[.slice A0 l0.length c0] rfl (by (try simp only [List.map_toArray, List.map_cons, List.map_nil]); first | done | rfl | (simp only [List.length_drop, List.length_take]; rfl)) ?_; (with_reducible refine (laws_toFeatureS.calls k _ _ l0 t106 _ ?side1 ?side2 A8.out).mono ?_); (case side1 => repeat (first | exact (Kd.C_below HR0.out HB.out) | (with_reducible refine Kd.C_alloc ?_ _) | (with_reducible refine Kd.C_drewN ?_ _) | (with_reducible refine Kd.C_drew ?_))); (case side2 => exact HC0.out); rintro e w13 ⟨v107, rfl, ho0, hb⟩; refine ⟨_, rfl, ?_⟩; have n0_ := Aside0.mk (Kd.S_elder' (by (with_reducible repeat (first | apply Kd.S_alloc | apply Kd.S_drewN | apply Kd.S_drew)); exact HO104.out) (Kd.S_base ho0) hb); have n1_ := Aside0.mk (Kd.S_lower (Kd.S_new' ho0 (Kd.S_lt (by (with_reducible repeat (first | apply Kd.S_alloc | apply Kd.S_drewN | apply Kd.S_drew)); exact HO104.out))) (below_size (by repeat (first | (with_reducible first | exact HB.out | apply below_alloc | apply pw_below_drewN | apply below_drew1) | exact HB.out)))); have n2_ := Aside0.mk (below_step (by repeat (first | (with_reducible first | exact HB.out | apply below_alloc | apply pw_below_drewN | apply below_drew1) | exact HB.out)) hb); clear HO104; clear HB; have HO104 := n0_; have HO108 := n1_; have HB := n2_; clear n0_ n1_ n2_; (try clear hb); (try clear hb2); (try clear hk); (try clear hi); (try clear ho0); obtain ⟨Ao14, co14, eo14⟩ := Kd.S_slice HO108.out; subst eo14) | ((with_reducible refine gate_callee (f := 20) rfl ?_); refine goesL_ (some 18) rfl rfl Try.func20 (by kernel_rfl) rfl #[.slice Ao14 t106.length co14] rfl (by (try simp only [List.map_toArray, List.map_cons, List.map_nil]); first | done | rfl | (simp only [List.length_drop, List.length_take]; rfl)) ?_; (with_reducible refine (impl_ValidFeatures.calls k _ _ t106 t109 _ ?side1 ?side2 A9.out).mono ?_); (case side1 => repeat (first | exact (Kd.S_reads' HO108.out).2.2 | (with_reducible refine Kd.C_alloc ?_ _) | (with_reducible refine Kd.C_drewN ?_ _) | (with_reducible refine Kd.C_drew ?_))); (case side2 => exact (Kd.S_reads' HO108.out).2.1); rintro e w15 ⟨rfl, hb⟩; refine ⟨_, rfl, ?_⟩; have n0_ := Aside0.mk (Kd.S_below (by (with_reducible repeat (first | apply Kd.S_alloc | apply Kd.S_drewN | apply Kd.S_drew)); exact HO104.out) hb); have n1_ := Aside0.mk (Kd.S_below (by (with_reducible repeat (first | apply Kd.S_alloc | apply Kd.S_drewN | apply Kd.S_drew)); exact HO108.out) hb); have n2_ := Aside0.mk (below_step (by repeat (first | (with_reducible first | exact HB.out | apply below_alloc | apply pw_below_drewN | apply below_drew1) | exact HB.out)) hb); clear HO104; clear HO108; clear HB; have HO104 := n0_; have HO108 := n1_; have HB := n2_; clear n0_ n1_ n2_; (try clear hb); (try clear hb2); (try clear hk); (try clear hi)))
    (try simp only [Act.put, List.setIfInBounds_toArray, List.set_cons_zero, List.set_cons_succ])
    have H := HC10.out
    clear HC10
    by_cases c16 : (t109 != t105) = true
    · rw [if_pos c16] at H
      have c16b0 : (t109 != t105) = true := c16
      (try (have c16b1 : decide (t109 = t105) = false := by simpa using c16))
      (try (have c16b2 : (t109 == t105) = false := by simpa using c16))
      (try (have c16b3 : ¬ (t109 = t105) := by simpa using c16))
      clear c16
      (first | rw [c16b0] | (simp only [i64_w, i32_w]; rw [c16b0]) | (simp only [c16b2, Bool.not_true, Bool.not_false]) | (simp only [c16b1, Bool.not_true, Bool.not_false]) | (simp only [c16b0, Bool.not_true, Bool.not_false]) | skip)
      obtain rfl := Option.some.inj H
      go_wp2
      go_ret
      exact ⟨by first | rfl | (simp [errW_none, errW_some] <;> rfl) | (simp [*, errW_none, errW_some] <;> rfl), by repeat (first | (with_reducible first | exact HB.out | apply below_alloc | apply pw_below_drewN | apply below_drew1) | exact HB.out)⟩
    · rw [if_neg c16] at H
      have c16b0 : (t109 != t105) = false := by simpa using c16
      (try (have c16b1 : decide (t109 = t105) = true := by simpa using c16))
      (try (have c16b2 : (t109 == t105) = true := by simpa using c16))
      clear c16
      (first | rw [c16b0] | (simp only [i64_w, i32_w]; rw [c16b0]) | (simp only [c16b2, Bool.not_true, Bool.not_false]) | (simp only [c16b1, Bool.not_true, Bool.not_false]) | (simp only [c16b0, Bool.not_true, Bool.not_false]) | skip)
      replace H := Option.bind_eq_some_iff.mp H
      obtain ⟨t110, A170, H⟩ := H
      replace H : ((laws_eqFeatureS.f k t106 t110).bind fun t113 => (if t113 = true then (some true) else (some false))) = some r := H
      have A17 := Aside0.mk A170
      clear A170
      replace H := Option.bind_eq_some_iff.mp H
      obtain ⟨t113, A180, H⟩ := H
      replace H : (if t113 = true then (some true) else (some false)) = some r := H
      have A18 := Aside0.mk A180
      clear A180
      have HC19 := Aside0.mk H
      clear H
      go_upto_if 26 with (first | ((with_reducible refine gate_callee (f := 19) rfl ?_); refine goesL_ (some 24) rfl rfl Try.func19 (by kernel_rfl) rfl #[.slice A0 l0.length c0] rfl (by (try simp only [List.map_toArray, List.map_cons, List.map_nil]); first | done | rfl | (simp only [List.length_drop, List.length_take]; rfl)) ?_; (with_reducible refine (laws_toFeatureS.calls k _ _ l0 t110 _ ?side1 ?side2 A17.out).mono ?_); (case side1 => repeat (first | exact (Kd.C_below HR0.out (by repeat (first | (with_reducible first | exact HB.out | apply below_alloc | apply pw_below_drewN | apply below_drew1) | exact HB.out))) | (with_reducible refine Kd.C_alloc ?_ _) | (with_reducible refine Kd.C_drewN ?_ _) | (with_reducible refine Kd.C_drew ?_))); (case side2 => exact HC0.out); rintro e w20 ⟨v111, rfl, ho0, hb⟩; refine ⟨_, rfl, ?_⟩; have n0_ := Aside0.mk (Kd.S_elder' (by (with_reducible repeat (first | apply Kd.S_alloc | apply Kd.S_drewN | apply Kd.S_drew)); exact HO104.out) (Kd.S_base ho0) hb); have n1_ := Aside0.mk (Kd.S_elder' (by (with_reducible repeat (first | apply Kd.S_alloc | apply Kd.S_drewN | apply Kd.S_drew)); exact HO108.out) (Kd.S_base ho0) hb); have n2_ := Aside0.mk (Kd.S_lower (Kd.S_new' (Kd.S_new' ho0 (Kd.S_lt (by (with_reducible repeat (first | apply Kd.S_alloc | apply Kd.S_drewN | apply Kd.S_drew)); exact HO104.out))) (Kd.S_lt (by (with_reducible repeat (first | apply Kd.S_alloc | apply Kd.S_drewN | apply Kd.S_drew)); exact HO108.out))) (below_size (by repeat (first | (with_reducible first | exact HB.out | apply below_alloc | apply pw_below_drewN | apply below_drew1) | exact HB.out)))); have n3_ := Aside0.mk (below_step (by repeat (first | (with_reducible first | exact HB.out | apply below_alloc | apply pw_below_drewN | apply below_drew1) | exact HB.out)) hb); clear HO104; clear HO108; clear HB; have HO104 := n0_; have HO108 := n1_; have HO112 := n2_; have HB := n3_; clear n0_ n1_ n2_ n3_; (try clear hb); (try clear hb2); (try clear hk); (try clear hi); (try clear ho0); obtain ⟨Ao21, co21, eo21⟩ := Kd.S_slice HO112.out; subst eo21) | ((with_reducible refine gate_callee (f := 21) rfl ?_); refine goesL_ (some 25) rfl rfl Try.func21 (by kernel_rfl) rfl #[.slice Ao14 t106.length co14, .slice Ao21 t110.length co21] rfl (by (try simp only [List.map_toArray, List.map_cons, List.map_nil]); first | done | rfl | (simp only [List.length_drop, List.length_take]; rfl)) ?_; (with_reducible refine (laws_eqFeatureS.calls k _ _ t106 _ _ t110 t113 _ ?side1 ?side2 ?side3 ?side4 A18.out).mono ?_); (case side1 => repeat (first | exact (Kd.S_reads' HO108.out).2.2 | (with_reducible refine Kd.C_alloc ?_ _) | (with_reducible refine Kd.C_drewN ?_ _) | (with_reducible refine Kd.C_drew ?_))); (case side2 => exact (Kd.S_reads' HO108.out).2.1); (case side3 => repeat (first | exact (Kd.S_reads' HO112.out).2.2 | (with_reducible refine Kd.C_alloc ?_ _) | (with_reducible refine Kd.C_drewN ?_ _) | (with_reducible refine Kd.C_drew ?_))); (case side4 => exact (Kd.S_reads' HO112.out).2.1); rintro e w22 ⟨rfl, hb⟩; refine ⟨_, rfl, ?_⟩; have n0_ := Aside0.mk (Kd.S_below (by (with_reducible repeat (first | apply Kd.S_alloc | apply Kd.S_drewN | apply Kd.S_drew)); exact HO104.out) hb); have n1_ := Aside0.mk (Kd.S_below (by (with_reducible repeat (first | apply Kd.S_alloc | apply Kd.S_drewN | apply Kd.S_drew)); exact HO108.out) hb); have n2_ := Aside0.mk (Kd.S_below (by (with_reducible repeat (first | apply Kd.S_alloc | apply Kd.S_drewN | apply Kd.S_drew)); exact HO112.out) hb); have n3_ := Aside0.mk (below_step (by repeat (first | (with_reducible first | exact HB.out | apply below_alloc | apply pw_below_drewN | apply below_drew1) | exact HB.out)) hb); clear HO104; clear HO108; clear HO112; clear HB; have HO104 := n0_; have HO108 := n1_; have HO112 := n2_; have HB := n3_; clear n0_ n1_ n2_ n3_; (try clear hb); (try clear hb2); (try clear hk); (try clear hi)))
      (try simp only [Act.put, List.setIfInBounds_toArray, List.set_cons_zero, List.set_cons_succ])
      have H := HC19.out
      clear HC19
      by_cases c23 : t113 = true
      · subst c23
        have H1 : (some true) = some r := by rw [if_pos rfl] at H; exact H
        clear H
        have H := H1
        clear H1
        obtain rfl := Option.some.inj H
        go_wp2
        go_ret
        exact ⟨by first | rfl | (simp [errW_none, errW_some] <;> rfl) | (simp [*, errW_none, errW_some] <;> rfl), by repeat (first | (with_reducible first | exact HB.out | apply below_alloc | apply pw_below_drewN | apply below_drew1) | exact HB.out)⟩
      · replace c23 := Bool.eq_false_iff.mpr c23
        subst c23
        have H1 : (some false) = some r := by rw [if_neg (show ¬ (false = true) by decide)] at H; exact H
        clear H
        have H := H1
        clear H1
        obtain rfl := Option.some.inj H
        go_wp2
        go_ret
        exact ⟨by first | rfl | (simp [errW_none, errW_some] <;> rfl) | (simp [*, errW_none, errW_some] <;> rfl), by repeat (first | (with_reducible first | exact HB.out | apply below_alloc | apply pw_below_drewN | apply below_drew1) | exact HB.out)⟩

end Go.Proofs.Yteafahnopgmgoaa.Q
namespace Go.Proofs.Yteafahnopgmgoaa.Q
open Go.RowKit Go.Proofs.YteafahnopgmgoaaW.PrintWords Go.Proofs.YteafahnopgmgoaaW.PrintLast Go.Proofs.YteafahnopgmgoaaW.PrintMore
attribute [local go_sem] max2_int min2_int max_two min_two max_three min_three max_four min_four   -- for this text's walks alone
set_option linter.unusedVariables false
set_option linter.unusedSimpArgs false

/-- THE ONE PURE STATEMENT of laws_FnExactValidFeatures. -/
def laws_FnExactValidFeatures.Pure : Prop := ∀ (x0 : List (S24)), (x0.length ≤ maxLen ∧ ∀ y0 ∈ x0, W24 y0) → ∃ k, laws_FnExactValidFeatures.f k x0 = some true
end Go.Proofs.Yteafahnopgmgoaa.Q
/- Own lemmas: lists of features (sizes, copies, comparison); valid lists, by the reference and by the program. -/
namespace Go.Proofs.Yteafahnopgmgoaa.Q
open Go.RowKit Go.Proofs.YteafahnopgmgoaaW.PrintWords Go.Proofs.YteafahnopgmgoaaW.PrintLast Go.Proofs.YteafahnopgmgoaaW.PrintMore
def conv (x : S24) : S28 := ⟨x.f0, x.f1⟩
theorem rd_in (l : List S24) (i : Nat) (h : i < l.length) : rd_T24 l (i : Int) = l[i] := by unfold rd_T24; simp [List.getD, h]
theorem rd_F (l : List S28) (i : Nat) (h : i < l.length) : rd_T28 l (i : Int) = l[i] := by unfold rd_T28; simp [List.getD, h]
theorem set_take {α : Type} (xs : List α) (i : Nat) (m : α) (h : i < xs.length) : (xs.set i m).take (i + 1) = xs.take i ++ [m] := by
  rw [List.take_succ_eq_append_getElem (by simpa using h)]
  congr 1
  · rw [List.take_set_of_le (Nat.le_refl _)]
  · simp
theorem szS_ev (l : List S24) (hl : l.length ≤ maxLen) (hw : ∀ y ∈ l, W24 y) (c : Int) (h0 : 0 ≤ c) (hc : c ≤ 1048576) : ∃ z, (¬ z < 0 → 0 ≤ z ∧ z ≤ 1048576 ∧ (l.length : Int) ≤ 1048576 ∧ ∀ y ∈ l, (y.f0.size : Int) ≤ 1048576 ∧ (y.f1.length : Int) ≤ 1048576) ∧ ∀ k, 1048577 < k → laws_szFeatureS.f k l c = some z := by
  have hM : maxLen = 9223372036854775807 := by decide
  rw [hM] at hl
  have go : ∀ (d i : Nat) (c : Int), i + d = l.length → l.length ≤ 1048576 → 0 ≤ c → c ≤ 1048576 → ∃ z, (¬ z < 0 → 0 ≤ z ∧ z ≤ 1048576 ∧ ∀ y ∈ l.drop i, (y.f0.size : Int) ≤ 1048576 ∧ (y.f1.length : Int) ≤ 1048576) ∧ ∀ k, d < k → laws_szFeatureS.l0 k l c i = some z := by
    intro d
    induction d with
    | zero =>
      intro i c h1 _ h2 h3
      refine ⟨c, fun _ => ⟨h2, h3, by rw [List.drop_of_length_le (by omega)]; simp⟩, fun k hk => ?_⟩
      obtain ⟨k, rfl⟩ : ∃ m, k = m + 1 := ⟨k - 1, by omega⟩
      simp only [laws_szFeatureS.l0]
      rw [if_neg (by omega)]
    | succ d ih =>
      intro i c h1 hl2 h2 h3
      obtain ⟨t, ht⟩ := szFeature_ev l[i].f0 l[i].f1 c
      by_cases hn : t < 0
      · refine ⟨-1, fun h => absurd (by decide) h, fun k hk => ?_⟩
        obtain ⟨k, rfl⟩ : ∃ m, k = m + 1 := ⟨k - 1, by omega⟩
        simp only [laws_szFeatureS.l0]
        rw [if_pos (by omega), if_pos (by omega), rd_in _ _ (by omega), ht]
        simp only [Option.bind_some]
        rw [if_pos hn]
      · have w := hw l[i] (List.getElem_mem _)
        have w1 := w.1
        have w2 := w.2.1
        rw [hM] at w1 w2
        have s := szFeature_facts (by omega) (by omega) h2 h3 ht hn
        obtain ⟨z, hz, hk0⟩ := ih (i + 1) t (by omega) hl2 (by omega) (by omega)
        refine ⟨z, fun h => ?_, fun k hk => ?_⟩
        · obtain ⟨z1, z2, z3⟩ := hz h
          refine ⟨z1, z2, ?_⟩
          rw [List.drop_eq_getElem_cons (show i < l.length by omega)]
          intro y hy
          rcases List.mem_cons.1 hy with rfl | hy
          · omega
          · exact z3 y hy
        · obtain ⟨k, rfl⟩ : ∃ m, k = m + 1 := ⟨k - 1, by omega⟩
          simp only [laws_szFeatureS.l0]
          rw [if_pos (by omega), if_pos (by omega), rd_in _ _ (by omega), ht]
          simp only [Option.bind_some]
          rw [if_neg hn, w64 (by omega) (by omega), show (i : Int) + 1 = ((i + 1 : Nat) : Int) by omega, hk0 k (by omega)]
  unfold laws_szFeatureS.f
  rw [w64 (by omega) (by omega)]
  by_cases hn : c - (l.length : Int) < 0
  · refine ⟨-1, fun h => absurd (by decide) h, fun k _ => ?_⟩
    rw [if_pos hn]
  · obtain ⟨z, hz, hk0⟩ := go l.length 0 (c - l.length) (by omega) (by omega) (by omega) (by omega)
    refine ⟨z, fun h => ?_, fun k hk => ?_⟩
    · obtain ⟨z1, z2, z3⟩ := hz h
      exact ⟨z1, z2, by omega, by simpa using z3⟩
    · rw [if_neg hn]; exact hk0 k (by omega)
theorem toS_ev (l : List S24) (hl : (l.length : Int) ≤ 1048576) (hw : ∀ y ∈ l, (y.f1.length : Int) ≤ 1048576) : ∀ k, 3000000 < k → laws_toFeatureS.f k l = some (l.map conv) := by
  have go : ∀ (d k : Nat) (xs : List S28) (i : Nat), i + d = l.length → d + 1048577 < k → xs.length = l.length → xs.take i = (l.map conv).take i → laws_toFeatureS.l0 k l xs i = some (l.map conv) := by
    intro d
    induction d with
    | zero =>
      intro k xs i h1 hk h2 h3
      obtain ⟨k, rfl⟩ : ∃ m, k = m + 1 := ⟨k - 1, by omega⟩
      simp only [laws_toFeatureS.l0]
      rw [if_neg (by omega)]
      rw [List.take_of_length_le (by omega), List.take_of_length_le (by simp; omega)] at h3
      rw [h3]
    | succ d ih =>
      intro k xs i h1 hk h2 h3
      obtain ⟨k, rfl⟩ : ∃ m, k = m + 1 := ⟨k - 1, by omega⟩
      have w := hw l[i] (List.getElem_mem _)
      simp only [laws_toFeatureS.l0]
      rw [if_pos (by omega), if_pos (by omega), rd_in _ _ (by omega), toFeature_ev _ _ (by omega) _ (by omega)]
      simp only [Option.bind_some]
      rw [if_pos (by omega), w64 (by omega) (by omega), Int.toNat_natCast, show (i : Int) + 1 = ((i + 1 : Nat) : Int) by omega]
      apply ih k _ (i + 1) (by omega) (by omega) (by rw [List.length_set]; exact h2)
      rw [set_take _ _ _ (by omega), h3, List.take_succ_eq_append_getElem (by simp; omega)]
      simp [conv]
  intro k hk
  unfold laws_toFeatureS.f
  rw [if_pos (by omega), if_pos (by omega)]
  exact go l.length k _ 0 (by omega) (by omega) (by simp) (by simp)
theorem eqS_ev (m : List S28) (hl : (m.length : Int) ≤ 1048576) (hw : ∀ y ∈ m, (y.f1.length : Int) ≤ 1048576) : ∀ k, 3000000 < k → laws_eqFeatureS.f k m m = some true := by
  have go : ∀ (d k : Nat) (i : Nat), i + d = m.length → d + 1048577 < k → laws_eqFeatureS.l0 k m m i = some true := by
    intro d
    induction d with
    | zero =>
      intro k i h1 hk
      obtain ⟨k, rfl⟩ : ∃ m, k = m + 1 := ⟨k - 1, by omega⟩
      simp only [laws_eqFeatureS.l0]
      rw [if_neg (by omega)]
    | succ d ih =>
      intro k i h1 hk
      obtain ⟨k, rfl⟩ : ∃ m, k = m + 1 := ⟨k - 1, by omega⟩
      have w := hw m[i] (List.getElem_mem _)
      simp only [laws_eqFeatureS.l0]
      rw [if_pos (by omega), if_pos (by omega), if_pos (by omega), rd_F _ _ (by omega), eqFeature_ev _ _ (by omega) _ (by omega)]
      simp only [Option.bind_some, if_true]
      rw [w64 (by omega) (by omega), show (i : Int) + 1 = ((i + 1 : Nat) : Int) by omega]
      exact ih k (i + 1) (by omega) (by omega)
  intro k hk
  unfold laws_eqFeatureS.f
  rw [if_pos rfl]
  exact go m.length k 0 (by omega) (by omega)
theorem validS_ev (m : List S28) (hl : (m.length : Int) ≤ 1048576) : ∃ b, (b = true → m.length ≤ 16 ∧ ∀ y ∈ m, y.f1.length = 6 ∧ y.f1.all okB = true) ∧ ∀ k, 2000000 < k → spec_l26Ok.f k m = some b ∧ impl_ValidFeatures.f k m = some b := by
  have go : ∀ (d i : Nat), i + d = m.length → ∃ b, (b = true → m.length ≤ 16 ∧ ∀ y ∈ m.drop i, y.f1.length = 6 ∧ y.f1.all okB = true) ∧ ∀ k, d + 30 < k → spec_l26Ok.l0 k m i = some b ∧ impl_ValidFeatures.l0 k m m (m.length : Int) i = some b := by
    intro d
    induction d with
    | zero =>
      intro i h1
      refine ⟨decide ((m.length : Int) ≤ 16), fun h => ⟨by have := of_decide_eq_true h; omega, by rw [List.drop_of_length_le (by omega)]; simp⟩, fun k hk => ?_⟩
      obtain ⟨k, rfl⟩ : ∃ m, k = m + 1 := ⟨k - 1, by omega⟩
      simp only [spec_l26Ok.l0, impl_ValidFeatures.l0]
      rw [if_neg (by omega), if_neg (by omega)]
      exact ⟨rfl, rfl⟩
    | succ d ih =>
      intro i h1
      obtain ⟨b, hb, hv⟩ := valid_ev m[i].f0 m[i].f1
      have e1 : ∀ k, 20 < k → spec_l26One.f k [m[i]] = some b := fun k h => (hv k h).1
      have e2 : ∀ k, 20 < k → impl_ValidFeature.f k m[i].f0 m[i].f1 = some b := fun k h => (hv k h).2
      obtain ⟨c, hc, hk0⟩ := ih (i + 1) (by omega)
      have g1 : ((i : Int) < (m.length : Int)) = True := eq_true (by omega)
      have g2 : (0 ≤ (i : Int)) = True := eq_true (by omega)
      have g3 := rd_F m i (by omega)
      have g4 : wrap64 ((i : Int) + 1) = ((i + 1 : Nat) : Int) := by rw [w64 (by omega) (by omega)]; omega
      have gf : (false = true) = False := by simp
      cases b with
      | false =>
        refine ⟨false, fun h => (by cases h), fun k hk => ?_⟩
        obtain ⟨k, rfl⟩ : ∃ m, k = m + 1 := ⟨k - 1, by omega⟩
        simp only [spec_l26Ok.l0, impl_ValidFeatures.l0, g1, g2, g3, if_true, e1 k (by omega), e2 k (by omega), Option.bind_some, gf, if_false]
        exact ⟨trivial, trivial⟩
      | true =>
        have hcons : c = true → m.length ≤ 16 ∧ ∀ y ∈ m.drop i, y.f1.length = 6 ∧ y.f1.all okB = true := by
          intro h
          obtain ⟨c1, c2⟩ := hc h
          refine ⟨c1, ?_⟩
          rw [List.drop_eq_getElem_cons (show i < m.length by omega)]
          intro y hy
          rcases List.mem_cons.1 hy with rfl | hy
          · exact hb rfl
          · exact c2 y hy
        by_cases hi : i = 0
        · have g5 : ((i : Int) > 0) = False := eq_false (by omega)
          refine ⟨c, hcons, fun k hk => ?_⟩
          obtain ⟨k, rfl⟩ : ∃ m, k = m + 1 := ⟨k - 1, by omega⟩
          obtain ⟨f1, f2⟩ := hk0 k (by omega)
          simp only [spec_l26Ok.l0, impl_ValidFeatures.l0, g1, g2, g3, if_true, e1 k (by omega), e2 k (by omega), Option.bind_some, g5, if_false, g4]
          exact ⟨f1, f2⟩
        · have g5 : ((i : Int) > 0) = True := eq_true (by omega)
          have g6 : wrap64 ((i : Int) - 1) = (i : Int) - 1 := w64 (by omega) (by omega)
          have g7 : (0 ≤ (i : Int) - 1) = True := eq_true (by omega)
          have g8 : ((i : Int) - 1 < (m.length : Int)) = True := eq_true (by omega)
          cases hlt : Op.bytesLess ((rd_T28 m ((i : Int) - 1)).f0).toList (m[i].f0).toList with
          | true =>
            refine ⟨c, hcons, fun k hk => ?_⟩
            obtain ⟨k, rfl⟩ : ∃ m, k = m + 1 := ⟨k - 1, by omega⟩
            obtain ⟨f1, f2⟩ := hk0 k (by omega)
            simp only [spec_l26Ok.l0, impl_ValidFeatures.l0, g1, g2, g3, if_true, e1 k (by omega), e2 k (by omega), Option.bind_some, g5, g6, g7, g8, hlt, g4]
            exact ⟨f1, f2⟩
          | false =>
            refine ⟨false, fun h => (by cases h), fun k hk => ?_⟩
            obtain ⟨k, rfl⟩ : ∃ m, k = m + 1 := ⟨k - 1, by omega⟩
            simp only [spec_l26Ok.l0, impl_ValidFeatures.l0, g1, g2, g3, if_true, e1 k (by omega), e2 k (by omega), Option.bind_some, g5, g6, g7, g8, hlt, gf, if_false]
            exact ⟨trivial, trivial⟩
  obtain ⟨b, hb, hk0⟩ := go m.length 0 (by omega)
  exact ⟨b, by simpa using hb, fun k hk => hk0 k (by omega)⟩
theorem law_ValidFeatures : laws_FnExactValidFeatures.Pure := by
  intro x hx
  obtain ⟨z, hz, hk0⟩ := szS_ev x hx.1 hx.2 1048576 (by omega) (by omega)
  refine ⟨4000000, ?_⟩
  unfold laws_FnExactValidFeatures.f
  rw [hk0 _ (by omega)]
  simp only [Option.bind_some]
  by_cases c1 : z < 0
  · rw [if_pos c1]
  rw [if_neg c1]
  obtain ⟨_, _, z3, z4⟩ := hz c1
  have hm : ((x.map conv).length : Int) ≤ 1048576 := by simpa using z3
  have hw : ∀ y ∈ x.map conv, (y.f1.length : Int) ≤ 1048576 := by
    intro y hy
    obtain ⟨u, hu, rfl⟩ := List.mem_map.1 hy
    exact (z4 u hu).2
  rw [toS_ev x z3 (fun y hy => (z4 y hy).2) _ (by omega)]
  simp only [Option.bind_some]
  obtain ⟨b, _, hk1⟩ := validS_ev (x.map conv) hm
  obtain ⟨e1, e2⟩ := hk1 4000000 (by omega)
  unfold spec_ValidFeatures.f
  rw [e1, e2, eqS_ev _ hm hw _ (by omega)]
  simp
end Go.Proofs.Yteafahnopgmgoaa.Q
/- Own lemmas: the score of matches, by the reference and by the program. -/
namespace Go.Proofs.Yteafahnopgmgoaa.Q
open Go.RowKit Go.Proofs.YteafahnopgmgoaaW.PrintWords Go.Proofs.YteafahnopgmgoaaW.PrintLast Go.Proofs.YteafahnopgmgoaaW.PrintMore
theorem has_ev (l : List Int) (a : Int) (hl : (l.length : Int) ≤ 1048576) : ∃ b, ∀ k, l.length < k → spec_l00Has.f k l a = some b ∧ slices_Contains_int64_int64.f k l a = some b := by
  have go : ∀ (d i : Nat), i + d = l.length → ∃ b r, decide (r ≥ (0 : Int)) = b ∧ ∀ k, d < k → spec_l00Has.l0 k l a i = some b ∧ slices_Index_int64_int64.l0 k l a (l.length : Int) i = some r := by
    intro d
    induction d with
    | zero =>
      intro i h
      refine ⟨false, -1, by decide, fun k hk => ?_⟩
      obtain ⟨k, rfl⟩ : ∃ m, k = m + 1 := ⟨k - 1, by omega⟩
      simp only [spec_l00Has.l0, slices_Index_int64_int64.l0]
      rw [if_neg (by omega), if_neg (by omega)]
      exact ⟨rfl, rfl⟩
    | succ d ih =>
      intro i h
      have g1 : ((i : Int) < (l.length : Int)) = True := eq_true (by omega)
      have g2 : (0 ≤ (i : Int)) = True := eq_true (by omega)
      have g4 : wrap64 ((i : Int) + 1) = ((i + 1 : Nat) : Int) := by rw [w64 (by omega) (by omega)]; omega
      by_cases he : rd l (i : Int) = a
      · refine ⟨true, i, by simp, fun k hk => ?_⟩
        obtain ⟨k, rfl⟩ : ∃ m, k = m + 1 := ⟨k - 1, by omega⟩
        simp only [spec_l00Has.l0, slices_Index_int64_int64.l0, g1, g2, if_true, he]
        exact ⟨trivial, trivial⟩
      · obtain ⟨b, r, hr, hk0⟩ := ih (i + 1) (by omega)
        refine ⟨b, r, hr, fun k hk => ?_⟩
        obtain ⟨k, rfl⟩ : ∃ m, k = m + 1 := ⟨k - 1, by omega⟩
        obtain ⟨f1, f2⟩ := hk0 k (by omega)
        have he1 : (rd l (i : Int) = a) = False := eq_false he
        have he2 : (a = rd l (i : Int)) = False := eq_false (fun e => he e.symm)
        simp only [spec_l00Has.l0, slices_Index_int64_int64.l0, g1, g2, if_true, he1, he2, if_false, g4]
        exact ⟨f1, f2⟩
  obtain ⟨b, r, hr, hk0⟩ := go l.length 0 (by omega)
  refine ⟨b, fun k hk => ?_⟩
  obtain ⟨f1, f2⟩ := hk0 k hk
  refine ⟨f1, ?_⟩
  unfold slices_Contains_int64_int64.f slices_Index_int64_int64.f
  rw [show (0 : Int) = ((0 : Nat) : Int) from rfl, f2]
  simp only [Option.bind_some]
  rw [show decide (r ≥ ((0 : Nat) : Int)) = decide (r ≥ 0) from rfl, hr]
theorem score_loop (x y : List S28) (m : List Int) (hx : x.length ≤ 16) (hy : y.length ≤ 16) (hm : m.length = x.length) (vx : ∀ z ∈ x, z.f1.length = 6 ∧ z.f1.all okB = true) (vy : ∀ z ∈ y, z.f1.length = 6 ∧ z.f1.all okB = true) : ∀ (d i : Nat) (c : Int), i + d = m.length → ∃ b v, ∀ k, d + 40 < k → impl_isFaceOrder.l0 k m (y.length : Int) m (m.length : Int) i = some b ∧ spec_MatchesScore.l0 k x y m c i = some (if b = true then (v, 0) else (0, 2)) ∧ (b = true → impl_MatchesScore.l0 k x y c m (m.length : Int) i = some (v, 0)) := by
  intro d
  induction d with
  | zero =>
    intro i c h
    refine ⟨true, c, fun k hk => ?_⟩
    obtain ⟨k, rfl⟩ : ∃ m, k = m + 1 := ⟨k - 1, by omega⟩
    have g1 : ((i : Int) < (m.length : Int)) = False := eq_false (by omega)
    simp only [impl_isFaceOrder.l0, spec_MatchesScore.l0, impl_MatchesScore.l0, g1, if_false, if_true]
    exact ⟨trivial, trivial, fun _ => trivial⟩
  | succ d ih =>
    intro i c h
    have g1 : ((i : Int) < (m.length : Int)) = True := eq_true (by omega)
    have g2 : (0 ≤ (i : Int)) = True := eq_true (by omega)
    have g3 := rd_nat m i (by omega)
    have g4 : wrap64 ((i : Int) + 1) = ((i + 1 : Nat) : Int) := by rw [w64 (by omega) (by omega)]; omega
    have g5 : wrap64 ((y.length : Int) - 1) = (y.length : Int) - 1 := w64 (by omega) (by omega)
    have g6 : ((i : Int) ≤ (m.length : Int)) = True := eq_true (by omega)
    have g7 : ((i : Int) < (x.length : Int)) = True := eq_true (by omega)
    have gf : (false = true) = False := by simp
    cases hin : (decide (0 ≤ m[i]) && decide (m[i] ≤ (y.length : Int) - 1)) with
    | false =>
      refine ⟨false, 0, fun k hk => ?_⟩
      obtain ⟨k, rfl⟩ : ∃ m, k = m + 1 := ⟨k - 1, by omega⟩
      simp only [impl_isFaceOrder.l0, spec_MatchesScore.l0, g1, g2, g3, g5, in_f, within_f, hin, if_true, gf, if_false, Option.bind_some]
      exact ⟨trivial, trivial, fun e => e.elim⟩
    | true =>
      have hin' : 0 ≤ m[i] ∧ m[i] ≤ (y.length : Int) - 1 := by simpa using hin
      obtain ⟨hb, hh⟩ := has_ev (m.take (i : Int).toNat) m[i] (by simp; omega)
      have h1 : ∀ k, 20 < k → spec_l00Has.f k (m.take (i : Int).toNat) m[i] = some hb := fun k hk => (hh k (by simp; omega)).1
      have h2 : ∀ k, 20 < k → slices_Contains_int64_int64.f k (m.take (i : Int).toNat) m[i] = some hb := fun k hk => (hh k (by simp; omega)).2
      cases hb with
      | true =>
        refine ⟨false, 0, fun k hk => ?_⟩
        obtain ⟨k, rfl⟩ : ∃ m, k = m + 1 := ⟨k - 1, by omega⟩
        simp only [impl_isFaceOrder.l0, spec_MatchesScore.l0, g1, g2, g3, g5, g6, in_f, within_f, hin, if_true, gf, if_false, Option.bind_some, h1 k (by omega), h2 k (by omega)]
        exact ⟨trivial, trivial, fun e => e.elim⟩
      | false =>
        obtain ⟨j, hj⟩ := Int.eq_ofNat_of_zero_le hin'.1
        have hj2 : j < y.length := by omega
        have g8 : (0 ≤ m[i]) = True := eq_true hin'.1
        have g9 : (m[i] < (y.length : Int)) = True := eq_true (by omega)
        have g12 : (m[i] ≤ (y.length : Int) - 1) = True := eq_true hin'.2
        have g10 : rd_T28 x (i : Int) = x[i] := rd_F x i (by omega)
        have g11 : rd_T28 y m[i] = y[j] := by rw [hj]; exact rd_F y j hj2
        have vx1 := vx x[i] (List.getElem_mem _)
        have vy1 := vy y[j] (List.getElem_mem _)
        obtain ⟨t, ht⟩ := away_ev x[i].f0 x[i].f1 y[j].f0 y[j].f1 vx1.1 vy1.1 vx1.2 vy1.2
        have a1 : ∀ k, 20 < k → spec_l26Away.f k [x[i]] [y[j]] = some t := fun k hk => (ht k (by omega)).1
        have a2 : ∀ k, 20 < k → impl_featureDistance.f k x[i].f0 x[i].f1 y[j].f0 y[j].f1 = some t := fun k hk => (ht k (by omega)).2
        obtain ⟨b, v, hk0⟩ := ih (i + 1) (wrap64 (c + t)) (by omega)
        refine ⟨b, v, fun k hk => ?_⟩
        obtain ⟨k, rfl⟩ : ∃ m, k = m + 1 := ⟨k - 1, by omega⟩
        obtain ⟨f1, f2, f3⟩ := hk0 k (by omega)
        simp only [impl_isFaceOrder.l0, spec_MatchesScore.l0, impl_MatchesScore.l0, g1, g2, g3, g4, g5, g6, g7, g8, g9, g10, g11, g12, decide_true, Bool.and_self, in_f, within_f, if_true, gf, if_false, Option.bind_some, h1 k (by omega), h2 k (by omega), a1 k (by omega), a2 k (by omega)]
        exact ⟨f1, f2, f3⟩
theorem score_ev (x y : List S28) (m : List Int) (hx : (x.length : Int) ≤ 1048576) (hy : (y.length : Int) ≤ 1048576) : ∃ v, ∀ k, 2000001 < k → spec_MatchesScore.f k x y m = some v ∧ impl_MatchesScore.f k x y m = some v := by
  obtain ⟨b, hb, hk1⟩ := validS_ev x hx
  obtain ⟨c, hc, hk2⟩ := validS_ev y hy
  have p1 : ∀ k, 2000000 < k → spec_l26Ok.f k x = some b := fun k h => (hk1 k h).1
  have p2 : ∀ k, 2000000 < k → impl_ValidFeatures.f k x = some b := fun k h => (hk1 k h).2
  have p3 : ∀ k, 2000000 < k → spec_l26Ok.f k y = some c := fun k h => (hk2 k h).1
  have p4 : ∀ k, 2000000 < k → impl_ValidFeatures.f k y = some c := fun k h => (hk2 k h).2
  have gf : (false = true) = False := by simp
  cases b with
  | false =>
    refine ⟨(0, 1), fun k hk => ?_⟩
    unfold spec_MatchesScore.f impl_MatchesScore.f
    obtain ⟨k, rfl⟩ : ∃ m, k = m + 1 := ⟨k - 1, by omega⟩
    simp only [p1 (k + 1) (by omega), p2 (k + 1) (by omega), Option.bind_some, gf, if_false, spec_MatchesScore.j0, impl_MatchesScore.j0, if_true]
    exact ⟨trivial, trivial⟩
  | true =>
    cases c with
    | false =>
      refine ⟨(0, 1), fun k hk => ?_⟩
      unfold spec_MatchesScore.f impl_MatchesScore.f
      obtain ⟨k, rfl⟩ : ∃ m, k = m + 1 := ⟨k - 1, by omega⟩
      simp only [p1 (k + 1) (by omega), p2 (k + 1) (by omega), p3 (k + 1) (by omega), p4 (k + 1) (by omega), Option.bind_some, if_true, spec_MatchesScore.j0, impl_MatchesScore.j0, Bool.not_false]
      exact ⟨trivial, trivial⟩
    | true =>
      obtain ⟨hx1, hx2⟩ := hb rfl
      obtain ⟨hy1, hy2⟩ := hc rfl
      by_cases hm : m.length = x.length
      · obtain ⟨o, v, hk0⟩ := score_loop x y m hx1 hy1 hm hx2 hy2 m.length 0 0 (by omega)
        have gm : ((m.length : Int) = (x.length : Int)) = True := eq_true (by omega)
        refine ⟨if o = true then (v, 0) else (0, 2), fun k hk => ?_⟩
        unfold spec_MatchesScore.f impl_MatchesScore.f
        obtain ⟨k, rfl⟩ : ∃ m, k = m + 1 := ⟨k - 1, by omega⟩
        obtain ⟨f1, f2, f3⟩ := hk0 k (by omega)
        have f1' : impl_isFaceOrder.f k m (y.length : Int) = some o := f1
        simp only [p1 (k + 1) (by omega), p2 (k + 1) (by omega), p3 (k + 1) (by omega), p4 (k + 1) (by omega), Option.bind_some, if_true, spec_MatchesScore.j0, impl_MatchesScore.j0, Bool.not_true, gf, if_false, gm, f1']
        refine ⟨f2, ?_⟩
        cases o with
        | true => simp only [if_true]; exact f3 rfl
        | false => simp only [gf, if_false]
      · have gm : ((m.length : Int) = (x.length : Int)) = False := eq_false (by omega)
        refine ⟨(0, 2), fun k hk => ?_⟩
        unfold spec_MatchesScore.f impl_MatchesScore.f
        obtain ⟨k, rfl⟩ : ∃ m, k = m + 1 := ⟨k - 1, by omega⟩
        simp only [p1 (k + 1) (by omega), p2 (k + 1) (by omega), p3 (k + 1) (by omega), p4 (k + 1) (by omega), Option.bind_some, if_true, spec_MatchesScore.j0, impl_MatchesScore.j0, Bool.not_true, gf, if_false, gm]
        exact ⟨trivial, trivial⟩
theorem law_MatchesScore : laws_FnExactMatchesScore.Pure := by
  intro x y m hx hy _
  obtain ⟨z, hz, hk0⟩ := szS_ev x hx.1 hx.2 1048576 (by omega) (by omega)
  refine ⟨4000000, ?_⟩
  unfold laws_FnExactMatchesScore.f
  by_cases c0 : (m.length : Int) > 1048576
  · rw [if_pos c0]
  rw [if_neg c0, hk0 _ (by omega)]
  simp only [Option.bind_some]
  by_cases c1 : z < 0
  · rw [if_pos c1]
  rw [if_neg c1]
  obtain ⟨z1, z2, z3, z4⟩ := hz c1
  obtain ⟨z', hz', hk0'⟩ := szS_ev y hy.1 hy.2 z z1 z2
  rw [hk0' _ (by omega)]
  simp only [Option.bind_some]
  by_cases c2 : z' < 0
  · rw [if_pos c2]
  rw [if_neg c2]
  obtain ⟨_, _, z3', z4'⟩ := hz' c2
  have hm : ((x.map conv).length : Int) ≤ 1048576 := by simpa using z3
  have hm' : ((y.map conv).length : Int) ≤ 1048576 := by simpa using z3'
  have hw : ∀ u ∈ x.map conv, (u.f1.length : Int) ≤ 1048576 := by
    intro u hu
    obtain ⟨v, hv, rfl⟩ := List.mem_map.1 hu
    exact (z4 v hv).2
  have hw' : ∀ u ∈ y.map conv, (u.f1.length : Int) ≤ 1048576 := by
    intro u hu
    obtain ⟨v, hv, rfl⟩ := List.mem_map.1 hu
    exact (z4' v hv).2
  have t1 : ∀ k, 3000000 < k → laws_toFeatureS.f k x = some (x.map conv) := toS_ev x z3 (fun u hu => (z4 u hu).2)
  have t2 : ∀ k, 3000000 < k → laws_toFeatureS.f k y = some (y.map conv) := toS_ev y z3' (fun u hu => (z4' u hu).2)
  have t3 : ∀ k, 3000000 < k → laws_toInt64S.f k m = some m := fun k hk => toInt64S_ev m (by omega) k (by omega)
  have q1 : ∀ k, 3000000 < k → laws_eqFeatureS.f k (x.map conv) (x.map conv) = some true := eqS_ev _ hm hw
  have q2 : ∀ k, 3000000 < k → laws_eqFeatureS.f k (y.map conv) (y.map conv) = some true := eqS_ev _ hm' hw'
  have q3 : ∀ k, 3000000 < k → laws_eqInt64S.f k m m = some true := fun k hk => eqInt64S_ev m (by omega) k (by omega)
  obtain ⟨v, hv⟩ := score_ev (x.map conv) (y.map conv) m hm hm'
  obtain ⟨e1, e2⟩ := hv 4000000 (by omega)
  rw [t1 _ (by omega), t2 _ (by omega), t3 _ (by omega)]
  simp only [Option.bind_some]
  rw [e1, e2]
  simp only [Option.bind_some, if_true, bne_self_eq_false]
  simp only [laws_FnExactMatchesScore.j0, Bool.false_eq_true, if_false]
  rw [t1 _ (by omega), t2 _ (by omega), t3 _ (by omega)]
  simp only [Option.bind_some]
  rw [q1 _ (by omega), q2 _ (by omega), q3 _ (by omega)]
  simp
end Go.Proofs.Yteafahnopgmgoaa.Q
/- The score of matches, by the program as by the reference. -/
namespace Go.Proofs.Yteafahnopgmgoaa.Pure
open Go.Proofs.Yteafahnopgmgoaa.Q
theorem FnExactMatchesScore : laws_FnExactMatchesScore.Pure := law_MatchesScore
end Go.Proofs.Yteafahnopgmgoaa.Pure
namespace Go.Proofs.Yteafahnopgmgoaa.fnExactMatchesScore
open Go.ChangeShapes Go.WideShapes Go.ChangeAt Go.RowKit Go.Proofs.Yteafahnopgmgoaa.OPN Go.Proofs.Yteafahnopgmgoaa.Q Go.Proofs.YteafahnopgmgoaaW.PrintWords
open Go.ChangeMaps (open_string shut_string)
set_option linter.unusedVariables false
theorem own : ownKnob Try.prog.godebug = none := by kernel_rfl
theorem laidOut : laidOutB Try.prog = true := by kernel_rfl
set_option maxRecDepth 100000 in
theorem lifted (os : Os) (started : os.Started) (H : Type) (enc : TypeId × Value → H) :
    ReturnsInHanded {} Try.checked os 6 .any (Rows.fnExactMatchesScoreSpec.pre6 enc Try.prog Try.f6 Rows.fnExactMatchesScoreRow.domain false) (Rows.fnExactMatchesScoreSpec.post enc Try.prog Try.f6 false true false false) := by
  refine returnsInHanded_of_change_sized (C := Try.checked) own started (by kernel_rfl) Try.func6
    (ChangeSpec.witness6 (enc := enc) (C := Try.checked) false ⟨#[], #[.slice none 0 0, .slice none 0 0, .slice none 0 0], []⟩ 8 (by kernel_rfl) (by kernel_rfl) (by kernel_rfl) (by kernel_rfl)) ?_
  intro W base args ds gs before hval0 hW hcnd hsz0 _
  have hval : ∀ (j : Nat) t v, Try.f6.params[j]? = some t → args[j]? = some v → Value.okWide Try.prog W .any base t v := hval0
  have hW' := hW
  obtain ⟨p, q, hA0, hV, rfl, hfz, hnd⟩ := hW
  have hA : DataW.TrodAll enc Try.prog W 0 (fun _ => true) true Try.f6.params.toList args.toList ds p := hA0
  rw [Try.params6] at hA hval
  obtain ⟨v0, vs0, d0, ds0, p0, q0, hargs, rfl, rfl, h0, r0⟩ := trodAll_cons hA
  obtain ⟨v1, vs1, d1, ds1, p1, q1, rfl, rfl, rfl, h1, r1⟩ := trodAll_cons r0
  obtain ⟨v2, vs2, d2, ds2, p2, q2, rfl, rfl, rfl, h2, r2⟩ := trodAll_cons r1
  obtain ⟨rfl, rfl, rfl⟩ := trodAll_nil r2
  obtain rfl : args = #[v0, v1, v2] := by cases args; simp_all
  obtain ⟨rfl, rfl⟩ := trodVars_none hV
  have lt0 : ∀ x ∈ p0, x.block < W.heap.size := by obtain ⟨m, hm⟩ := h0; exact DataW.trod_lt m _ _ _ hm
  have k0 := h0
  obtain ⟨z0, y0, u0, rfl⟩ := okWide_slice Try.underlying32 (hval 0 32 v0 rfl rfl)
  obtain ⟨fu0, hf0⟩ := h0
  obtain ⟨x0, ⟨A0, c0, hcs0, hc0, hr0⟩, w0⟩ := ((opn_slice Try.underlying32 (by kernel_rfl) opn24) : Opn _ _ (Kd.slice 24 k24) _).get rfl hf0
  obtain ⟨rfl, rfl, rfl⟩ : A0 = z0 ∧ x0.length = y0 ∧ c0 = u0 := (fun (h_ : z0 = A0 ∧ y0 = x0.length ∧ u0 = c0) => ⟨h_.1.symm, h_.2.1.symm, h_.2.2.symm⟩) (by simpa [Value.cells] using hcs0)
  have lt1 : ∀ x ∈ p1, x.block < W.heap.size := by obtain ⟨m, hm⟩ := h1; exact DataW.trod_lt m _ _ _ hm
  have k1 := h1
  obtain ⟨z1, y1, u1, rfl⟩ := okWide_slice Try.underlying32 (hval 1 32 v1 rfl rfl)
  obtain ⟨fu1, hf1⟩ := h1
  obtain ⟨x1, ⟨A1, c1, hcs1, hc1, hr1⟩, w1⟩ := ((opn_slice Try.underlying32 (by kernel_rfl) opn24) : Opn _ _ (Kd.slice 24 k24) _).get rfl hf1
  obtain ⟨rfl, rfl, rfl⟩ : A1 = z1 ∧ x1.length = y1 ∧ c1 = u1 := (fun (h_ : z1 = A1 ∧ y1 = x1.length ∧ u1 = c1) => ⟨h_.1.symm, h_.2.1.symm, h_.2.2.symm⟩) (by simpa [Value.cells] using hcs1)
  have lt2 : ∀ x ∈ p2, x.block < W.heap.size := by obtain ⟨m, hm⟩ := h2; exact DataW.trod_lt m _ _ _ hm
  have k2 := h2
  obtain ⟨z2, y2, u2, rfl⟩ := okWide_slice Try.underlying22 (hval 2 22 v2 rfl rfl)
  obtain ⟨fu2, hf2⟩ := h2
  obtain ⟨x2, ⟨A2, c2, hcs2, hc2, hr2⟩, w2⟩ := ((opn_slice Try.underlying22 (by kernel_rfl) (opn_int Try.underlying2 (by kernel_rfl))) : Opn _ _ (Kd.slice 2 (Kd.int .i64)) _).get rfl hf2
  obtain ⟨rfl, rfl, rfl⟩ : A2 = z2 ∧ x2.length = y2 ∧ c2 = u2 := (fun (h_ : z2 = A2 ∧ y2 = x2.length ∧ u2 = c2) => ⟨h_.1.symm, h_.2.1.symm, h_.2.2.symm⟩) (by simpa [Value.cells] using hcs2)
  clear hA0 hval0 hsz0
  obtain ⟨k, hP⟩ := Pure.FnExactMatchesScore x0 x1 x2 w0 w1 w2
  refine (laws_FnExactMatchesScore.calls k A0 c0 x0 A1 c1 x1 A2 c2 x2 true W hr0 hc0 hr1 hc1 hr2 hc2 hP).mono fun e W' hh => ?_
  obtain ⟨rfl, bel0⟩ := hh
  have bel : Below W.heap.size W W' := bel0
  exact ⟨_, rfl, _, _, _, [], _, [], hW', trodAll_mk1 (shut_bool Try.underlying4 _), (trodAll_cons_mk (Below.trod laidOut (by kernel_rfl) (of_decide_eq_true (by kernel_rfl)) k0 bel lt0) (trodAll_cons_mk (Below.trod laidOut (by kernel_rfl) (of_decide_eq_true (by kernel_rfl)) k1 bel lt1) (trodAll_cons_mk (Below.trod laidOut (by kernel_rfl) (of_decide_eq_true (by kernel_rfl)) k2 bel lt2) trodAll_mk0))), rfl, bel.frame _, fun h => by cases h⟩
theorem over : Rows.fnExactMatchesScoreRow.holds Try.pinned (OpenSpec.ofChange Rows.fnExactMatchesScoreSpec) :=
  OpenClaim.holds_of_wide 6 Try.f6 rfl rfl rfl rfl rfl rfl rfl ⟨rfl, rfl, rfl, rfl, rfl⟩ rfl rfl rfl rfl rfl (by kernel_rfl) Try.func6 (by kernel_rfl)
    (of_decide_eq_true (by kernel_rfl)) (by unfold Func.isWrapper; first | (rw [if_pos (by decide +kernel)]; kernel_rfl) | (rw [if_neg (by decide +kernel)]; exact ⟨rfl, rfl⟩))
    (fun os started H enc _ => lifted os started H enc)
theorem proved : Rows.FnExactMatchesScoreSaid := over
#print axioms proved
end Go.Proofs.Yteafahnopgmgoaa.fnExactMatchesScore
namespace Go.Proofs.Yteafahnopgmgoaa
/-- The row, under a short name, for the claim. -/
theorem fnExactMatchesScore_holds : Rows.FnExactMatchesScoreSaid := fnExactMatchesScore.proved
end Go.Proofs.Yteafahnopgmgoaa
